/- Seeds of schemas: the schema of a seed, walked. Schemas: SchemaBack, walked. -/
import Derived.Test.YthlinmkengoliaaGreatDoorZWb
import Derived.Test.YthlinmkengoliaaGreatDoorZWa
import Derived.Test.YthlinmkengoliaaGreatDoorZSw
import Derived.Deep.DeepCutAuto
import Derived.Test.YthlinmkengoliaaGreatDoorZSx
import Derived.Test.YthlinmkengoliaaGreatDoorZRe
set_option linter.unusedVariables false
set_option linter.unusedSimpArgs false
namespace Go.Ms
open Go.RowKit Go.Lib
theorem and_i64_one (a : Nat) (ha : a < 9223372036854775808) : bits .and .i64 (a : Int) 1 = (a : Int) % 2 := by
 have h1 : (BitVec.ofInt 64 (a : Int)).toNat = a := by
  rw [BitVec.ofInt_natCast, BitVec.toNat_ofNat]; exact Nat.mod_eq_of_lt (by omega)
 have h2 : (BitVec.ofInt 64 (1 : Int)).toNat = 1 := by decide
 show IntKind.i64.wrap ((BitVec.ofInt 64 (a : Int) &&& BitVec.ofInt 64 1).toNat : Int) = _
 rw [BitVec.toNat_and, h1, h2, IntKind.wrap_i64, Nat.and_one_is_mod]; omega
theorem and_one (x : Int) (h0 : 0 ≤ x) (h1 : x < 9223372036854775808) : bits .and .i64 x 1 = x % 2 := by
 obtain ⟨a, rfl⟩ := Int.eq_ofNat_of_zero_le h0; exact and_i64_one a (by omega)
theorem seed_bit (q : Int) (k : Nat) : bits .and .i64 (q % 65536 / 2 ^ k) 1 = (q % 65536 / 2 ^ k) % 2 := by
 have h0 : 0 ≤ q % 65536 := by omega
 have h2 : (0 : Int) ≤ 2 ^ k := Int.pow_nonneg (by omega); have h3 := Int.ediv_le_self (a := q % 65536) (2 ^ k) h0; exact and_one _ (Int.ediv_nonneg h0 h2) (by omega)
theorem ext_lay {w : World} {B : Nat} {A : Option Addr} {xs : List Value} (h : Ext w B A xs) : Lay w B A xs := fun j u hu => by
 have hl : j < xs.length := (List.getElem?_eq_some_iff.1 hu).1; obtain ⟨a, rfl, hb, h0⟩ := h 0 _ (List.getElem?_eq_getElem (by omega)); obtain ⟨_, e, _, hj⟩ := h j u hu
 cases e
 obtain ⟨g, o, s⟩ := a
 have hs : s = none := by
  cases s with
  | none => rfl
  | some x =>
   exfalso
   have : (Addr.add ⟨g, o, some x⟩ 0) = ⟨g, o, some x⟩ := rfl; rw [this] at h0; unfold World.cell? at h0
   split at h0
   · simp at h0
   · cases h0
 subst hs; refine ⟨g, o, rfl, hb, ?_⟩; rw [Addr.add_lit] at hj; exact hj
structure MdSt (tS tC tI : TypeId) (w : World) (B : Nat) (bx : Obj) (v1 v2 : Value) (cs : List Co) (ks : List Int) (wr : World) : Prop where
  b0 : wr.heap[w.heap.size]? = some bx
  b1 : wr.heap[w.heap.size + 1]? = some (.cells #[.slice none 0 0, .slice none 0 0] tS (0, 0))
  b2 : wr.heap[w.heap.size + 1 + 1]? = some (.cells #[v1, v2] tS (0, 0))
  o1 : OwnCo wr B tC v1 cs
  o2 : OwnI wr B tI v2 ks
  bel : Below w.heap.size w wr
  lo : B = w.heap.size + 3
  hi : B ≤ wr.heap.size
section
variable {tS tC tI : TypeId} {w : World} {B : Nat} {bx : Obj} {v1 v2 : Value} {cs : List Co} {ks : List Int} {wr : World}
theorem MdSt.step {w' : World} (h : MdSt tS tC tI w B bx v1 v2 cs ks wr) (hb : Below wr.heap.size wr w') : MdSt tS tC tI w B bx v1 v2 cs ks w' :=
  ⟨block_kept h.b0 hb, block_kept h.b1 hb, block_kept h.b2 hb, own_below h.o1 hb, own_below h.o2 hb, h.bel.trans (hb.mono h.bel.size), h.lo, Nat.le_trans h.hi hb.size⟩
theorem MdSt.keys (h : MdSt tS tC tI w B bx v1 v2 cs ks wr) (hne : tC ≠ tI) {W' : World} {v2' : Value} {k : Int} (hown : W'.ownsRow B tI 1 v2' (ks.length + 1) (intV ks ++ intV [k])) (hg : wr.grownBy W' v2.ownBlock) : MdSt tS tC tI w B bx v1 v2' cs (ks ++ [k]) (W'.setCell ⟨w.heap.size + 1 + 1, 1, none⟩ v2') := by
 have hlo := h.lo
 have hb : ∀ k : Nat, k < B → some k ≠ v2.ownBlock := fun k hk e => by have := (World.ownsRow.lt h.o2 k e.symm).1; omega
 have ho2 : OwnI W' B tI v2' (ks ++ [k]) := by
  unfold OwnI; rw [List.length_append, intV_app]; exact hown
 exact ⟨far_set ((hg.block _ (Array.getElem?_eq_some_iff.1 h.b0).1 (hb _ (by omega))).trans h.b0) (by omega) _, far_set ((hg.block _ (Array.getElem?_eq_some_iff.1 h.b1).1 (hb _ (by omega))).trans h.b1) (by omega) _, two_set1 ((hg.block _ (Array.getElem?_eq_some_iff.1 h.b2).1 (hb _ (by omega))).trans h.b2) _,
   own_set' (World.ownsRow.kept h.o1 hg (own_apart h.o1 h.o2 hne)) (by omega) _, own_set' ho2 (by omega) _, (own_grown h.o2 h.bel h.bel.size (by omega) hg).setCell (p := ⟨w.heap.size + 1 + 1, 1, none⟩) (by simp only; omega) _, h.lo, by simp only [World.size_setCell]; exact Nat.le_trans h.hi hg.size⟩
theorem MdSt.cols (h : MdSt tS tC tI w B bx v1 v2 cs ks wr) (hne : tC ≠ tI) {W' : World} {v1' : Value} {c : Co} (hown : W'.ownsRow B tC 7 v1' (cs.length + 1) (colV cs ++ coV c)) (hg : wr.grownBy W' v1.ownBlock) : MdSt tS tC tI w B bx v1' v2 (cs ++ [c]) ks (W'.setCell ⟨w.heap.size + 1 + 1, 0, none⟩ v1') := by
 have hlo := h.lo
 have hb : ∀ k : Nat, k < B → some k ≠ v1.ownBlock := fun k hk e => by have := (World.ownsRow.lt h.o1 k e.symm).1; omega
 have ho2 : OwnCo W' B tC v1' (cs ++ [c]) := by
  unfold OwnCo; rw [List.length_append, colV_app, show colV [c] = coV c by simp [colV]]; exact hown
 exact ⟨far_set ((hg.block _ (Array.getElem?_eq_some_iff.1 h.b0).1 (hb _ (by omega))).trans h.b0) (by omega) _, far_set ((hg.block _ (Array.getElem?_eq_some_iff.1 h.b1).1 (hb _ (by omega))).trans h.b1) (by omega) _, two_set0 ((hg.block _ (Array.getElem?_eq_some_iff.1 h.b2).1 (hb _ (by omega))).trans h.b2) _,
   own_set' ho2 (by omega) _, own_set' (World.ownsRow.kept h.o2 hg (own_apart h.o2 h.o1 (Ne.symm hne))) (by omega) _, (own_grown h.o1 h.bel h.bel.size (by omega) hg).setCell (p := ⟨w.heap.size + 1 + 1, 0, none⟩) (by simp only; omega) _, h.lo, by simp only [World.size_setCell]; exact Nat.le_trans h.hi hg.size⟩
theorem coV_one (c : Co) : ∀ u ∈ coV c, u.oneCell' = true := fun u hu => colV_one [c] u (by simpa [colV] using hu)
theorem after_append2 (h : MdSt tS tC tI w B bx v1 v2 cs ks wr) {W' : World} (hg : wr.grownBy W' v2.ownBlock) : W'.heap[w.heap.size + 1 + 1]? = some (.cells #[v1, v2] tS (0, 0)) := by
 have hlo := h.lo
 have hb : ∀ k : Nat, k < B → some k ≠ v2.ownBlock := fun k hk e => by have := (World.ownsRow.lt h.o2 k e.symm).1; omega
 exact (hg.block _ (Array.getElem?_eq_some_iff.1 h.b2).1 (hb _ (by omega))).trans h.b2
theorem after_append (h : MdSt tS tC tI w B bx v1 v2 cs ks wr) {W' : World} (hg : wr.grownBy W' v1.ownBlock) : W'.heap[w.heap.size + 1 + 1]? = some (.cells #[v1, v2] tS (0, 0)) := by
 have hlo := h.lo
 have hb : ∀ k : Nat, k < B → some k ≠ v1.ownBlock := fun k hk e => by have := (World.ownsRow.lt h.o1 k e.symm).1; omega
 exact (hg.block _ (Array.getElem?_eq_some_iff.1 h.b2).1 (hb _ (by omega))).trans h.b2
end
end Go.Ms
namespace Go.Proofs.YthlinmkengoliaaGreatDoor
open Go.RowKit Go.Ms Go.Lib
set_option maxRecDepth 100000 in
set_option maxHeartbeats 8000000 in
theorem made_any (A : Option Addr) (n c : Nat) (l : List Sd5) (q : Int) (w : World) (hc : n ≤ c) (kc : c ≤ maxLen) (ll : l.length = n) (ex : Ext w w.heap.size A (sdL l)) (ok : ∀ x ∈ l, SdIn x) (hq : I64 q) :
    Calls Tryz.prog 10 #[.agg #[.slice A n c, .int .i64 q]] w fun e w' => ∃ A' c' B' d', e = .returned (.agg #[.slice A' (sdMade l q).1.length c', .slice B' (sdMade l q).2.length d']) ∧ OwnCo w' w.heap.size 37 (.slice A' (sdMade l q).1.length c') (sdMade l q).1 ∧ OwnI w' w.heap.size 3 (.slice B' (sdMade l q).2.length d') (sdMade l q).2 ∧ Below w.heap.size w w' := by
 obtain ⟨ic, ci, cz0, cz1, cz2⟩ := info_parts column_info; obtain ⟨ii, ki, kz0, kz1, kz2⟩ := info_parts int_info; unfold maxLen at kc; obtain ⟨X, hX⟩ : ∃ X, X = ((w.alloc (.cells #[.slice A n c, .int .i64 q] 24)).alloc (.cells #[.slice none 0 0, .slice none 0 0] 28)).alloc (.cells #[.slice none 0 0, .slice none 0 0] 28) := ⟨_, rfl⟩
 have hst0 : MdSt 28 37 3 w X.heap.size (.cells #[.slice A n c, .int .i64 q] 24 (0, 0)) (.slice none 0 0) (.slice none 0 0) [] [] X := by
  have e0 := block_new w (.cells #[.slice A n c, .int .i64 q] 24); have e1 := block_new (w.alloc (.cells #[.slice A n c, .int .i64 q] 24)) (.cells #[.slice none 0 0, .slice none 0 0] 28); have e2 := block_new ((w.alloc (.cells #[.slice A n c, .int .i64 q] 24)).alloc (.cells #[.slice none 0 0, .slice none 0 0] 28)) (.cells #[.slice none 0 0, .slice none 0 0] 28); simp only [World.size_alloc] at e1 e2
  refine ⟨by rw [hX]; exact block_next (block_next e0 _) _, by rw [hX]; exact block_next e1 _, by rw [hX]; exact e2, World.ownsRow_nil _ _ _ _, World.ownsRow_nil _ _ _ _, ?_, by rw [hX]; simp only [World.size_alloc], Nat.le_refl _⟩; rw [hX]; exact (((Below.refl _ w).alloc (Nat.le_refl _) _).alloc (by rw [World.size_alloc]; omega) _).alloc (by simp only [World.size_alloc]; omega) _
 have HST := Lib.hid hst0; have HEX := Lib.hid ex; have HOK := Lib.hid ok; have HLL := Lib.hid ll; have HQ := Lib.hid hq
 clear hst0 ex ok ll hq
 go_enter Tryz.func10, Tryz.ntmps10
 go_upto_region 3 with fail
 rw [← hX]
 generalize X.heap.size = B at HST
 clear hX
 go_wp2_with fail
 go_loopw [4, 5] (fun s4 s5 wr => ∃ (k : Nat) (v1 v2 : Value), k ≤ min n 16 ∧ s4 = .int .i64 (sdRun (q % 65536) (l.take k)).2.2 ∧ s5 = .int .i64 k ∧ MdSt 28 37 3 w B (.cells #[.slice A n c, .int .i64 q] 24 (0, 0)) v1 v2 (sdRun (q % 65536) (l.take k)).1 (sdRun (q % 65536) (l.take k)).2.1 wr) (fun _ s5 _ => 16 - (RowKit.intOf s5).toNat)
 case atStart => exact ⟨0, .slice none 0 0, .slice none 0 0, by omega, rfl, rfl, HST.out⟩
 case round =>
  obtain ⟨k, v1, v2, hk, rfl, rfl, hs⟩ := hrel; obtain ⟨A1, c1, rfl, _⟩ := yown_slice hs.o1; obtain ⟨A2, c2, rfl, _⟩ := yown_slice hs.o2; have hll := HLL.out; have z0 := cell_of_block (i := 0) hs.b0 rfl; have x0 := cell_of_block (i := 0) hs.b2 rfl; have x1 := cell_of_block (i := 1) hs.b2 rfl
  have hlen : (sdRun (q % 65536) (l.take k)).1.length = k := by rw [sdRun_len, List.length_take]; omega
  by_cases hlk : k < n ∧ k < 16
  · obtain ⟨cc, hcc⟩ : ∃ c, l[k]? = some c := ⟨_, List.getElem?_eq_getElem (by omega)⟩; have hin : SdIn cc := HOK.out cc (List.mem_of_getElem? hcc); have hsd := sdRun_ok (q % 65536) (l.take k) (by rw [List.length_take]; omega)
    have hsn : sdRun (q % 65536) (l.take (k + 1)) = sdStep (q % 65536) (sdRun (q % 65536) (l.take k)) cc := by rw [List.take_add_one, hcc]; exact sdRun_snoc _ _ _
    obtain ⟨⟨cs, ks, id⟩, hR⟩ : ∃ s, sdRun (q % 65536) (l.take k) = s := ⟨_, rfl⟩; rw [hR] at hs hlen hsd hsn x0 x1 ⊢; simp only at hs hlen hsd x0 x1 ⊢; have hid := hsd.idb
    have hcol := fun w' => column_seed cc id k w' hin.1 hin.2.1 hin.2.2.1 hin.2.2.2.1 hin.2.2.2.2 hid.1 (by omega) hlk.2
    have t1 : decide ((k : Int) < (n : Int)) = true := by simp; omega
    have t2 : decide ((k : Int) < 16) = true := by simp; omega
    have t3 : (k : Int) < (n : Int) := by omega
    have t4 : (k : Int) < 16 := by omega
    obtain ⟨ga, oa, rfl, hab, hA5⟩ := (ext_lay HEX.out).some_ (by rw [sdL_len]; omega)
    have hcell : ∀ (j : Nat) (u : Value), (sdV cc)[j]? = some u → wr.cell? ⟨ga, oa + k * 5 + j, none⟩ = some u := fun j u hu => by
     have := hA5 (k * 5 + j) u (sdL_at l k cc hcc j u hu); rw [← Nat.add_assoc] at this; exact (hs.bel.cell (by exact hab)).trans this
    have e0 := hcell 0 _ rfl; have e1 := hcell 1 _ rfl; have e2 := hcell 2 _ rfl; have e3 := hcell 3 _ rfl; have e4 := hcell 4 _ rfl; rw [Nat.add_zero] at e0; clear hA5; obtain ⟨d, hd⟩ : ∃ d, sdCo cc id k = d := ⟨_, rfl⟩; rw [hd] at hcol; obtain ⟨i0, s0, ⟨k0, u0⟩, n0, m0, t0⟩ := d; simp only [coA, sdA] at hcol
    have hst : ∀ w7, Below wr.heap.size wr w7 → MdSt 28 37 3 w B (.cells #[.slice (some ⟨ga, oa, none⟩) n c, .int .i64 q] 24 (0, 0)) (.slice A1 cs.length c1) (.slice A2 ks.length c2) cs ks (w7.alloc (.cells (coV ((i0, s0, (k0, u0), n0, m0, t0) : Co)).toArray 37)) := fun w7 hb => (hs.step hb).step ((Below.refl _ w7).alloc (Nat.le_refl _) _)
    have hx7 : ∀ w7, Below wr.heap.size wr w7 → w7.cell? ⟨w.heap.size + 1 + 1, 0, none⟩ = some (.slice A1 cs.length c1) := fun w7 hb => cell_of_block (i := 0) (hs.step hb).b2 rfl
    have hmax : cs.length + 1 ≤ maxLen := by unfold maxLen; omega
    have hbyt : (cs.length + 1) * 72 ≤ 140737488355328 := by omega
    have hfin : sdRun (q % 65536) (l.take (k + 1)) = (cs ++ [((i0, s0, (k0, u0), n0, m0, t0) : Co)], (if (q % 65536 / 2 ^ k) % 2 = 1 ∧ u0 = false ∧ ks.length < 8 then ks ++ [(k : Int)] else ks), i0) := by
     rw [hsn]; unfold sdStep; simp only [hlen, hd]
    have HFIN := Lib.hid hfin; clear hfin
    have HS := Lib.hid hs; have HLEN := Lib.hid hlen; have HSD := Lib.hid hsd; have HSN := Lib.hid hsn; have HCOL := Lib.hid hcol; have HR := Lib.hid hR; have HCC := Lib.hid hcc; have HD := Lib.hid hd; have HST := Lib.hid hst; have HX7 := Lib.hid hx7; have HMAX := Lib.hid hmax; have HBYT := Lib.hid hbyt
    clear hs hlen hsd hsn hcol hR hcc hcell hd hst hx7 hmax hbyt
    go_upto_region 6 with fail
    go_cut [] (fun wx => ∃ A3 c3, MdSt 28 37 3 w B (.cells #[.slice (some ⟨ga, oa, none⟩) n c, .int .i64 q] 24 (0, 0)) (.slice A3 (cs.length + 1) c3) (.slice A2 ks.length c2) (cs ++ [((i0, s0, (k0, u0), n0, m0, t0) : Co)]) ks wx)
    case first =>
     go_region_law (first
       | (refine step_append_lay rfl (.tmp 18) (.tmp 27) 25 rfl B 37 ic _ 7 72 under_cols ci cz0 cz1 cz2 rfl (by omega) (.slice A1 cs.length c1) cs.length (colV cs) rfl S8.out.o1 _ (some ⟨w7.heap.size, 0, none⟩) 1 1 (coV ((i0, s0, (k0, u0), n0, m0, t0) : Co)) rfl rfl Q8.out (coV_one _) HMAX.out HBYT.out S8.out.hi ?_; intro v3 w3 own3 hg3; (obtain ⟨A3, c3, hv3, _⟩ := yown_slice own3); subst hv3; (have hz := after_append S8.out hg3); (have y0 := cell_of_block (i := 0) hz rfl); (have f0 := frozen_of_block (i := 0) hz); (have OWN3 := Lib.hid own3); (have HG3 := Lib.hid hg3); clear hz own3 hg3)
       | (go_simp; (with_reducible refine (HCOL.out _).mono ?_); rintro en w7 ⟨rfl, b7⟩; (have hb7 := (ms_drewN (Below.refl wr.heap.size wr) 1).trans b7); (have S8 := Lib.hid (HST.out w7 hb7)); (have Q8 := Lib.hid (lay_new w7 (coV ((i0, s0, (k0, u0), n0, m0, t0) : Co)) 37)); (have x7 := HX7.out w7 hb7); (have x8 : (w7.alloc (.cells #[.int .i64 i0, .string s0, .int .i64 k0, .bool u0, .bool n0, .int .i64 m0, .string t0] 37)).cell? ⟨w.heap.size + 1 + 1, 0, none⟩ = some (.slice A1 cs.length c1) := cell_of_block (i := 0) S8.out.b2 rfl); clear b7 hb7))
     all_goals
      go_wp2_with fail
      go_meet
      exact ⟨A3, c3, S8.out.cols (by decide) OWN3.out HG3.out⟩
    case rest =>
     obtain ⟨A3, c3, hs⟩ := hcut; have hlen := HLEN.out
     have hdk : (cs ++ [((i0, s0, (k0, u0), n0, m0, t0) : Co)])[k]? = some (i0, s0, (k0, u0), n0, m0, t0) := by rw [← hlen]; simp
     obtain ⟨g, rfl⟩ : ∃ g, A3 = some ⟨g, 0, none⟩ := by
      rcases hs.o1.2 with ⟨_, h0⟩ | ⟨g, cap', cur, hv, _⟩
      · simp at h0
      · injection hv with h1; exact ⟨g, h1⟩
     have ho1 : OwnCo wc B 37 (.slice (some ⟨g, 0, none⟩) (cs.length + 1) c3) (cs ++ [((i0, s0, (k0, u0), n0, m0, t0) : Co)]) := hs.o1; obtain ⟨y0, y1, y2, y3, y4, y5, y6, _⟩ := own_co ho1 hdk; have x0 := cell_of_block (i := 0) hs.b2 rfl; have z1 := cell_of_block (i := 1) hs.b0 rfl
     have l1 : (k : Int) < ((cs.length : Int) + 1) := by omega
     have l2 : k < cs.length + 1 := by omega
     have hbr := fun w' => bringI_any q 65536 HQ.out.1 HQ.out.2 (by omega) (by omega) w'
     have HS2 := Lib.hid hs; have HBR := Lib.hid hbr; have HDK := Lib.hid hdk; have HO1 := Lib.hid ho1
     clear hs hbr hdk ho1
     go_wp2_with fail
     refine (HBR.out _).mono ?_; rintro en w8 ⟨rfl, b8⟩; have hs8 := HS2.out.step b8; have HS8 := Lib.hid hs8; obtain ⟨v0, v1, v2, v3, v4, v5, v6, _⟩ := own_co (own_below HO1.out b8) HDK.out; have xx0 := cell_of_block (i := 0) hs8.b2 rfl; have xx1 := cell_of_block (i := 1) hs8.b2 rfl; clear hs8 b8 x0 z1 y0 y1 y2 y3 y4 y5 y6; simp only at v0 v1 v2 v3 v4 v5 v6
     have hk1 : k + 1 ≤ min n 16 := by omega
     have hms : 16 - (RowKit.intOf (.int .i64 ((k : Int) + 1))).toNat < 16 - (RowKit.intOf (.int .i64 k)).toNat := by simp [RowKit.intOf]; omega
     have HMS := Lib.hid hms; have HK1 := Lib.hid hk1
     clear hms hk1; have hbit := seed_bit q k
     by_cases hP : (q % 65536 / 2 ^ k) % 2 = 1 ∧ u0 = false ∧ ks.length < 8
     · obtain ⟨p1, rfl, p3⟩ := hP; rw [p1] at hbit
       have hbit2 : (bits .and .i64 (q % 65536 / 2 ^ k) 1 == 1) = true := by rw [hbit]; rfl
       have p1' : ((q % 65536 / 2 ^ k) % 2 == 1) = true := by rw [p1]; rfl
       have p3' : decide ((ks.length : Int) < 8) = true := by simp; omega
       have p3'' : (ks.length : Int) < 8 := by omega
       have S9 := Lib.hid (HS8.out.step ((Below.refl _ w8).alloc (Nat.le_refl _) (.cells #[.int .i64 (k : Int)] 3))); have Q9 := Lib.hid (lay_new w8 (intV [(k : Int)]) 3); have x9 : (w8.alloc (.cells #[.int .i64 (k : Int)] 3)).cell? ⟨w.heap.size + 1 + 1, 1, none⟩ = some (.slice A2 ks.length c2) := cell_of_block (i := 1) S9.out.b2 rfl
       have hm8 : ks.length + 1 ≤ maxLen := by unfold maxLen; omega
       have hb8 : (ks.length + 1) * 8 ≤ 140737488355328 := by omega
       have HM8 := Lib.hid hm8; have HB8 := Lib.hid hb8
       have hf := HFIN.out; rw [if_pos ⟨p1, rfl, p3⟩] at hf; have HF := Lib.hid hf; clear hm8 hb8 hf
       go_wp2_with (at_builtin; refine wpList_append_lay rfl (.tmp 60) (.tmp 62) 26 rfl B 3 ii _ 1 8 under_ints ki kz0 kz1 kz2 rfl (by omega) (.slice A2 ks.length c2) ks.length (intV ks) rfl S9.out.o2 _ (some ⟨w8.heap.size, 0, none⟩) 1 1 (intV [(k : Int)]) rfl rfl Q9.out (intV_one _) HM8.out HB8.out S9.out.hi ?_; intro v9 w9 own9 hg9; (obtain ⟨A9, c9, hv9, _⟩ := yown_slice own9); subst hv9; (have hz := after_append2 S9.out hg9); (have y1 := cell_of_block (i := 1) hz rfl); (have f1 := frozen_of_block (i := 1) hz); (have OWN9 := Lib.hid own9); (have HG9 := Lib.hid hg9); clear hz own9 hg9)
       refine ⟨⟨k + 1, .slice (some ⟨g, 0, none⟩) (cs.length + 1) c3, .slice A9 (ks.length + 1) c9, HK1.out, ?_, by go_num, ?_⟩, HMS.out⟩
       · rw [HF.out]
       · rw [HF.out]; exact S9.out.keys (by decide) OWN9.out HG9.out
     · have hf := HFIN.out; rw [if_neg hP] at hf; have HF := Lib.hid hf; clear hf
       by_cases p1 : (q % 65536 / 2 ^ k) % 2 = 1
       · rw [p1] at hbit
         have hbit2 : (bits .and .i64 (q % 65536 / 2 ^ k) 1 == 1) = true := by rw [hbit]; rfl
         have p1' : ((q % 65536 / 2 ^ k) % 2 == 1) = true := by rw [p1]; rfl
         cases u0 with
         | true =>
          clear hP
          go_wp2_with fail
          refine ⟨⟨k + 1, .slice (some ⟨g, 0, none⟩) (cs.length + 1) c3, .slice A2 ks.length c2, HK1.out, ?_, by go_num, ?_⟩, HMS.out⟩
          · rw [HF.out]
          · rw [HF.out]; exact HS8.out
         | false =>
          have p3 : ¬ (ks.length : Int) < 8 := fun h => hP ⟨p1, rfl, by omega⟩
          have p3' : decide ((ks.length : Int) < 8) = false := by simp; omega
          clear hP
          go_wp2_with fail
          refine ⟨⟨k + 1, .slice (some ⟨g, 0, none⟩) (cs.length + 1) c3, .slice A2 ks.length c2, HK1.out, ?_, by go_num, ?_⟩, HMS.out⟩
          · rw [HF.out]
          · rw [HF.out]; exact HS8.out
       · have hbit2 : (bits .and .i64 (q % 65536 / 2 ^ k) 1 == 1) = false := by rw [hbit]; simpa using p1
         have hbit3 : ¬ bits .and .i64 (q % 65536 / 2 ^ k) 1 = 1 := by rw [hbit]; exact p1
         clear hbit
         have p1' : ((q % 65536 / 2 ^ k) % 2 == 1) = false := by simpa using p1
         clear hP
         go_wp2_with fail
         refine ⟨⟨k + 1, .slice (some ⟨g, 0, none⟩) (cs.length + 1) c3, .slice A2 ks.length c2, HK1.out, ?_, by go_num, ?_⟩, HMS.out⟩
         · rw [HF.out]
         · rw [HF.out]; exact HS8.out
  · have hko : k = min n 16 := by omega
    have t1 : decide ((k : Int) < (n : Int)) = true ∧ decide ((k : Int) < 16) = false ∨ decide ((k : Int) < (n : Int)) = false := by
     by_cases h : k < n
     · left; simp; omega
     · right; simp; omega
    have htk : l.take k = l.take 16 := by
     rcases Nat.lt_or_ge n 16 with h | h
     · rw [List.take_of_length_le (by omega), List.take_of_length_le (by omega)]
     · rw [show k = 16 by omega]
    rw [htk] at hs x0 x1 hlen
    have hmd : sdMade l q = (if n = 0 then ([sdOne], []) else ((sdRun (q % 65536) (l.take 16)).1, (sdRun (q % 65536) (l.take 16)).2.1)) := by
     unfold sdMade
     by_cases h : n = 0
     · rw [if_pos h, if_pos (List.eq_nil_of_length_eq_zero (by omega))]
     · rw [if_neg h, if_neg (fun e => by subst e; simp at hll; omega)]
    by_cases hn : n = 0
    · subst hn; obtain rfl : l = [] := List.eq_nil_of_length_eq_zero hll
      obtain rfl : k = 0 := by omega
      rw [if_pos rfl] at hmd; have hR : sdRun (q % 65536) (([] : List Sd5).take 16) = ([], [], 0) := rfl; rw [hR] at hs x0 x1; simp only [List.length_nil] at hs x0 x1; have hs9 := hs.step ((Below.refl _ wr).alloc (Nat.le_refl _) (.cells #[.int .i64 1, .string ⟨#[97]⟩, .int .i64 1, .bool false, .bool false, .int .i64 0, .string ⟨#[]⟩] 37))
      have ho9 : OwnCo (wr.alloc (.cells #[.int .i64 1, .string ⟨#[97]⟩, .int .i64 1, .bool false, .bool false, .int .i64 0, .string ⟨#[]⟩] 37)) wr.heap.size 37 (.slice (some ⟨wr.heap.size, 0, none⟩) 1 1) [sdOne] := World.ownsRow_lit wr #[.int .i64 1, .string ⟨#[97]⟩, .int .i64 1, .bool false, .bool false, .int .i64 0, .string ⟨#[]⟩] 1 (Nat.le_refl _) (by unfold maxLen; omega) rfl; have f0 := frozen_of_block (i := 0) hs9.b2; have xx0 := cell_of_block (i := 0) hs9.b2 rfl; have xx1 := cell_of_block (i := 1) hs9.b2 rfl; have w0 := frozen_of_block (i := 0) hs9.b1
      have w1 := frozen_of_block (i := 1) hs9.b1; have v0 := cell_of_block (i := 0) hs9.b1 rfl; have v1 := cell_of_block (i := 1) hs9.b1 rfl; have hlo := hs.lo; have hhi := hs.hi; have hfin := two_set1 (two_set0 (far_set (c := w.heap.size + 1 + 1) (i := 0) hs9.b1 (by omega) (.slice (some ⟨wr.heap.size, 0, none⟩) 1 1)) (.slice (some ⟨wr.heap.size, 0, none⟩) 1 1)) (.slice A2 0 c2); have r0 := cell_of_block (i := 0) hfin rfl; have r1 := cell_of_block (i := 1) hfin rfl
      have R0 := Lib.hid r0; have R1 := Lib.hid r1; have HS := Lib.hid hs9; have HO := Lib.hid ho9; have HMD := Lib.hid hmd; have HLO := Lib.hid hlo; have HHI := Lib.hid hhi
      clear hs hs9 ho9 hfin r0 r1 hmd hR hlo hhi hko hlen
      rcases t1 with ⟨t1, t2⟩ | t1
      · exact absurd t1 (by simp)
      · go_wp2_with fail
        have r0 := R0.out; have r1 := R1.out; have hlo := HLO.out; have hhi := HHI.out; refine bodyPost_ret (v := .agg #[.slice (some ⟨wr.heap.size, 0, none⟩) 1 1, .slice A2 0 c2]) (by simp [results, Tryz.results10, go_sem, r0, r1]) rfl ?_; rw [HMD.out]
        exact ⟨some ⟨wr.heap.size, 0, none⟩, 1, A2, c2, rfl, own_more (own_set' (own_set' (own_set' HO.out (by omega) _) (by omega) _) (by omega) _) (by omega), own_more (own_set' (own_set' (own_set' HS.out.o2 (by omega) _) (by omega) _) (by omega) _) (by omega), ((HS.out.bel.setCell (p := ⟨w.heap.size + 1 + 1, 0, none⟩) (by simp only; omega) _).setCell (p := ⟨w.heap.size + 1, 0, none⟩) (by simp only; omega) _).setCell (p := ⟨w.heap.size + 1, 1, none⟩) (by simp only; omega) _⟩
    · rw [if_neg hn] at hmd; obtain ⟨⟨cs, ks, id⟩, hR⟩ : ∃ s, sdRun (q % 65536) (l.take 16) = s := ⟨_, rfl⟩; rw [hR] at hs hlen x0 x1 hmd; simp only at hs hlen x0 x1 hmd; have HMD := Lib.hid hmd; clear hmd; have w0 := frozen_of_block (i := 0) hs.b1; have w1 := frozen_of_block (i := 1) hs.b1; have v0 := cell_of_block (i := 0) hs.b1 rfl; have v1 := cell_of_block (i := 1) hs.b1 rfl
      have p3 : ¬ cs.length = 0 := by omega
      have p1 : (cs.length == 0) = false := by rw [beq_eq_false_iff_ne]; exact p3
      have p2 : ((cs.length : Int) == 0) = false := by rw [beq_eq_false_iff_ne]; omega
      clear hlen hko; have HS := Lib.hid hs; clear hs; have hfin := two_set1 (two_set0 HS.out.b1 (.slice A1 cs.length c1)) (.slice A2 ks.length c2); have r0 := cell_of_block (i := 0) hfin rfl; have r1 := cell_of_block (i := 1) hfin rfl
      have R0 := Lib.hid r0; have R1 := Lib.hid r1
      clear hfin r0 r1
      rcases t1 with ⟨t1, t2⟩ | t1
      all_goals go_wp2_with fail
      all_goals
       have r0 := R0.out; have r1 := R1.out; refine bodyPost_ret (v := .agg #[.slice A1 cs.length c1, .slice A2 ks.length c2]) (by simp [results, Tryz.results10, go_sem, r0, r1]) rfl ?_; have hlo := HS.out.lo; rw [HMD.out]; exact ⟨A1, c1, A2, c2, rfl, own_more (own_set' (own_set' HS.out.o1 (by omega) _) (by omega) _) (by omega), own_more (own_set' (own_set' HS.out.o2 (by omega) _) (by omega) _) (by omega), (HS.out.bel.setCell (p := ⟨w.heap.size + 1, 0, none⟩) (by simp only; omega) _).setCell (p := ⟨w.heap.size + 1, 1, none⟩) (by simp only; omega) _⟩
end Go.Proofs.YthlinmkengoliaaGreatDoor
set_option linter.unusedSimpArgs false
namespace Go.Ms
open Go.RowKit Go.Lib
structure SeedOk (cs : List Co) (ks : List Int) : Prop where
  ok : ScOk cs ks
  back : parseD (scText cs ks) = (cs, ks, 0, 0)
  small : (scText cs ks).length ≤ 2000
  count : (scText cs ks).count 10 = cs.length
  most : cs.length ≤ 16
  keys : ks.length ≤ 8
  sizes : ∀ c ∈ cs, c.2.1.size ≤ 100000 ∧ c.2.2.2.2.2.size ≤ 100000
  check : scCheck cs ks = 0
theorem seed_ok {l : List Sd5} {q : Int} {cs : List Co} {ks : List Int} (h : sdMade l q = (cs, ks)) : SeedOk cs ks := by
 have h1 := sdMade_ok l q; have h2 := seed_back l q; have h3 := scText_small l q; have h4 := sdMade_len l q; rw [h] at h1 h2 h3 h4; refine ⟨h1, h2, h3, scText_count h1, h4, h1.keys, fun c hc => ?_, by unfold scCheck; rw [if_pos ((scOk_iff _ _).2 h1)]⟩; have := coOk_small (sc_each h1 c hc).1; omega
end Go.Ms
namespace Go.Proofs.YthlinmkengoliaaGreatDoor
open Go.RowKit Go.Ms Go.Lib Go.Rel
theorem made_is {A : Option Addr} {n c : Nat} {l : List Sd5} {q : Int} {w : World} {cs : List Co} {ks : List Int} (hm : sdMade l q = (cs, ks)) (hc : n ≤ c) (kc : c ≤ maxLen) (ll : l.length = n) (ex : Ext w w.heap.size A (sdL l)) (ok : ∀ x ∈ l, SdIn x) (hq : I64 q) :
    Calls Tryz.prog 10 #[.agg #[.slice A n c, .int .i64 q]] w fun e w' => ∃ A' c' B' d', e = .returned (.agg #[.slice A' cs.length c', .slice B' ks.length d']) ∧ OwnCo w' w.heap.size 37 (.slice A' cs.length c') cs ∧ OwnI w' w.heap.size 3 (.slice B' ks.length d') ks ∧ Below w.heap.size w w' := by
 have := made_any A n c l q w hc kc ll ex ok hq; rw [hm] at this; exact this
set_option maxRecDepth 100000 in
set_option maxHeartbeats 8000000 in
theorem schemaBack_walk (A : Option Addr) (n c : Nat) (l : List Sd5) (q : Int) (w : World) (hc : n ≤ c) (kc : c ≤ maxLen) (ll : l.length = n) (ex : Ext w w.heap.size A (sdL l)) (ok : ∀ x ∈ l, SdIn x) (hq : I64 q) (hE : Env w) :
    Calls Tryz.prog 6 #[.agg #[.slice A n c, .int .i64 q]] w fun e w' => e = .returned (.bool true) ∧ Below w.heap.size w w' := by
 obtain ⟨cs, ks, hm⟩ : ∃ cs ks, sdMade l q = (cs, ks) := ⟨_, _, rfl⟩; have so := seed_ok hm
 have hmd := fun w1 (h : Below w.heap.size w w1) => made_is (w := w1) hm hc kc ll ((ex.keep h).more h.size) ok hq
 obtain ⟨N, hN⟩ : ∃ N, cs.length = N := ⟨_, rfl⟩; obtain ⟨M, hM⟩ : ∃ M, ks.length = M := ⟨_, rfl⟩
 have hz : N ≤ 16 ∧ M ≤ 8 := by have := so.most; have := so.keys; omega
 obtain ⟨TX, hTX⟩ : ∃ t : ByteArray, t = ⟨(scText cs ks).toArray⟩ := ⟨_, rfl⟩
 have htl : TX.data.toList = scText cs ks := by rw [hTX]
 have hts : TX.size ≤ 2000 := by have e : TX.data.toList.length = TX.size := by simp
                                 rw [htl] at e; have := so.small; omega
 have htx := fun wq A3 c3 K3 d3 (h : ScL wq A3 K3 cs ks) (hb : Below w.heap.size w wq) => sctext_any wq A3 K3 N c3 M d3 cs ks so.sizes (by omega) (by omega) hN.symm hM.symm h.a h.b (hE.below hb)
 rw [← hTX, so.check] at htx
 have hps := fun wq (hb : Below w.heap.size w wq) => parse_is (S := TX) (w := wq) (by omega) (hE.below hb) (D := (cs, ks, 0, 0)) (by rw [htl]; exact so.back) hN hM (l := 0) rfl
 have hck := fun wq A3 c3 K3 d3 (h : ScL wq A3 K3 cs ks) (hb : Below w.heap.size w wq) => sccheck_any wq A3 K3 N c3 M d3 cs ks so.sizes (by omega) (by omega) hN.symm hM.symm h.a h.b (hE.below hb)
 rw [so.check] at hck
 have hss := fun wq A3 c3 K3 d3 A4 c4 K4 d4 (h : ScL wq A3 K3 cs ks) (h' : ScL wq A4 K4 cs ks) => rscsame_any wq A3 K3 A4 K4 N c3 M d3 N c4 M d4 cs cs ks ks (by unfold maxLen; omega) (by unfold maxLen; omega) (by unfold maxLen; omega) (by unfold maxLen; omega) hN.symm hM.symm hN.symm hM.symm h.a h.b h'.a h'.b
 simp only [decide_true, Bool.and_self] at hss
 have hcn := fun wq => Tryz.strings_Count_one TX 10 wq
 have hct : Lib.countByte TX.data.toList 10 = N := by show TX.data.toList.count 10 = N; rw [htl, so.count, hN]
 rw [hct] at hcn; rw [hN, hM] at hmd; simp only at hps; have hb0 : Below w.heap.size w (w.alloc (.cells #[.slice A n c, .int .i64 q] 24)) := (Below.refl _ w).alloc (Nat.le_refl _) _; have q0 := block_new w (.cells #[.slice A n c, .int .i64 q] 24)
 have HMD := Lib.hid hmd; have HTX := Lib.hid htx; have HPS := Lib.hid hps; have HCK := Lib.hid hck; have HSS := Lib.hid hss; have HCN := Lib.hid hcn; have HE := Lib.hid hE; have B0 := Lib.hid hb0; have Q0 := Lib.hid q0
 clear hmd htx hps hck hss hcn hE hb0 q0 hct hts htl hTX so hm hc kc ll ex ok hq hN hM hz
 go_enter Tryz.func6, Tryz.ntmps6
 go_wp2_with fail
 refine (works_any _ (HE.out.below B0.out)).mono ?_; rintro en w1 ⟨rfl, b1⟩
 have B1 := Lib.hid (B0.out.trans (b1.mono B0.out.size)); have Q1 := Lib.hid (block_kept Q0.out b1)
 clear b1 B0 Q0; have y0 := cell_of_block (i := 0) Q1.out rfl; have y1 := cell_of_block (i := 1) Q1.out rfl
 go_wp2_with fail
 refine (HMD.out _ B1.out).mono ?_; rintro en w2 ⟨A3, c3, K3, d3, rfl, o1, o2, b2⟩; obtain ⟨X, hX⟩ : ∃ X, X = w2.alloc (.cells #[.slice A3 N c3, .slice K3 M d3] 28) := ⟨_, rfl⟩
 have bx : Below w2.heap.size w2 X := by rw [hX]; exact (Below.refl _ _).alloc (Nat.le_refl _) _
 have q3 : X.heap[w2.heap.size]? = some (.cells #[.slice A3 N c3, .slice K3 M d3] 28 (0, 0)) := by rw [hX]; exact block_new _ _
 have B2 := Lib.hid ((B1.out.trans (b2.mono B1.out.size)).trans (bx.mono (B1.out.trans (b2.mono B1.out.size)).size)); have S2 := Lib.hid ((ScL.own o1 o2).below bx); have Q3 := Lib.hid q3
 clear b2 bx o1 o2 y0 y1 Q1 B1 q3
 go_upto_region 4 with fail
 rw [← hX]
 generalize w2.heap.size = sb at Q3 ⊢
 clear hX; have y0 := cell_of_block (i := 0) Q3.out rfl; have y1 := cell_of_block (i := 1) Q3.out rfl
 go_wp2_with fail
 refine (HTX.out _ _ _ _ _ S2.out B2.out).mono ?_; rintro en w3 ⟨rfl, b3⟩
 have B3 := Lib.hid (B2.out.trans (b3.mono B2.out.size)); have S3 := Lib.hid (S2.out.below b3); have Q4 := Lib.hid (block_kept Q3.out b3)
 clear b3 y0 y1 B2 S2 Q3
 go_wp2_with fail
 refine (HPS.out _ B3.out).mono ?_; rintro en w4 ⟨A4, K4, c4, d4, rfl, l1, l2, b4⟩; obtain ⟨Y, hY⟩ : ∃ Y, Y = w4.alloc (.cells #[.slice A4 N c4, .slice K4 M d4] 28) := ⟨_, rfl⟩
 have bx : Below w4.heap.size w4 Y := by rw [hY]; exact (Below.refl _ _).alloc (Nat.le_refl _) _
 have q5 : Y.heap[w4.heap.size]? = some (.cells #[.slice A4 N c4, .slice K4 M d4] 28 (0, 0)) := by rw [hY]; exact block_new _ _
 have BY := Lib.hid ((B3.out.trans (b4.mono B3.out.size)).trans (bx.mono (B3.out.trans (b4.mono B3.out.size)).size)); have SY := Lib.hid ((S3.out.below b4).below bx); have QS := Lib.hid (block_kept (block_kept Q4.out b4) bx); have RY := Lib.hid ((ScL.mk l1 l2).below bx); have QR := Lib.hid q5
 clear b4 bx l1 l2 B3 S3 Q4 q5
 go_upto_region 6 with fail
 rw [← hY]
 generalize w4.heap.size = rb at QR ⊢
 clear hY
 refine wp_region_sel [isV (.agg #[.slice A3 N c3, .slice K3 M d3]), isV (.int .i64 0), isV (.bool true), isV (.bool true), isV (.int .i64 0), isV (.bool true), isV (.bool true), isV (.bool true), isV (.int .i64 0), isV (.bool true), isV (.bool true), isV (.bool true), isV (.int .i64 0), isV (.bool true), isV (.bool true), isV (.bool true), isV (.agg #[.slice A3 N c3, .slice K3 M d3]), isV (.agg #[.slice A4 N c4, .slice K4 M d4]), isV (.bool true), isV (.bool true), isV (.bool true), isV (.string TX), isV (.int .i64 N), isV (.pointer (some ⟨sb, 0, none⟩)), isV (.slice A3 N c3), isV (.int .i64 N), isV (.bool true), isV (.bool true), isV (.bool true)] (by kernel_rfl) (by kernel_rfl) ?_ ?_
 ·
   refine rf (fun ev wo E => ?_) ?_
   · have e3 : ev (.tmp 3) = .pointer (some ⟨sb, 0, none⟩) := (E.base 3 rfl).trans rfl; have hx0 := cell_of_block (i := 0) (block_kept QS.out E.bel) rfl; have hx1 := cell_of_block (i := 1) (block_kept QS.out E.bel) rfl; go_simp; exact rv
   refine rf (fun ev wo E => ?_) ?_
   · have e24 : ev (.tmp 24) = .agg #[.slice A3 N c3, .slice K3 M d3] := E.e 0; have ef := E.func; have hbw := BY.out.trans (E.bel.mono BY.out.size); have hc := HCK.out wo A3 c3 K3 d3 (SY.out.below E.bel) hbw; have HC := Lib.hid hc; clear hc; go_simp; refine relUpon_enter (HC.out.mono ?_); rintro e w' ⟨rfl, hb⟩; exact ⟨_, rfl, hb, rfl⟩
   refine rf (fun ev wo E => ?_) ?_
   · have e25 : ev (.tmp 25) = .int .i64 0 := E.e 0; have ec := E.const; go_simp; exact rv
   refine rc 0 ?_; refine rbq 0 ?_; refine rq 1 (fun ev wo E => ?_) ?_
   · have e28 : ev (.tmp 28) = .int .i64 0 := E.e 0; have ec := E.const; go_simp; exact rv
   refine rf (fun ev wo E => ?_) ?_
   · have e27 : ev (.tmp 27) = .bool true := E.e 0; have e29 : ev (.tmp 29) = .bool true := E.e 1; have ec := E.const; go_simp; exact rv
   refine rc 0 ?_; refine rbq 0 ?_; refine rq 1 (fun ev wo E => ?_) ?_
   · have e32 : ev (.tmp 32) = .int .i64 0 := E.e 0; have ec := E.const; go_simp; exact rv
   refine rf (fun ev wo E => ?_) ?_
   · have e31 : ev (.tmp 31) = .bool true := E.e 0; have e33 : ev (.tmp 33) = .bool true := E.e 1; have ec := E.const; go_simp; exact rv
   refine rc 0 ?_; refine rbq 0 ?_; refine rq 1 (fun ev wo E => ?_) ?_
   · have e36 : ev (.tmp 36) = .int .i64 0 := E.e 0; have ec := E.const; go_simp; exact rv
   refine rf (fun ev wo E => ?_) ?_
   · have e35 : ev (.tmp 35) = .bool true := E.e 0; have e37 : ev (.tmp 37) = .bool true := E.e 1; have ec := E.const; go_simp; exact rv
   refine rc 0 ?_; refine rq 0 (fun ev wo E => ?_) ?_
   · have e3 : ev (.tmp 3) = .pointer (some ⟨sb, 0, none⟩) := (E.base 3 rfl).trans rfl; have hx0 := cell_of_block (i := 0) (block_kept QS.out E.bel) rfl; have hx1 := cell_of_block (i := 1) (block_kept QS.out E.bel) rfl; go_simp; exact rv
   refine rq 0 (fun ev wo E => ?_) ?_
   · have e6 : ev (.tmp 6) = .pointer (some ⟨rb, 0, none⟩) := (E.base 6 rfl).trans rfl; have hx0 := cell_of_block (i := 0) (block_kept QR.out E.bel) rfl; have hx1 := cell_of_block (i := 1) (block_kept QR.out E.bel) rfl; go_simp; exact rv
   refine rq 2 (fun ev wo E => ?_) ?_
   · have e40 : ev (.tmp 40) = .agg #[.slice A3 N c3, .slice K3 M d3] := E.e 0; have e41 : ev (.tmp 41) = .agg #[.slice A4 N c4, .slice K4 M d4] := E.e 1; have ef := E.func; have hc := HSS.out wo A3 c3 K3 d3 A4 c4 K4 d4 (SY.out.below E.bel) (RY.out.below E.bel); have HC := Lib.hid hc; clear hc; go_simp; refine relUpon_enter (HC.out.mono ?_); rintro e w' ⟨rfl, hb⟩; exact ⟨_, rfl, hb, rfl⟩
   refine rf (fun ev wo E => ?_) ?_
   · have e39 : ev (.tmp 39) = .bool true := E.e 0; have e42 : ev (.tmp 42) = .bool true := E.e 1; have ec := E.const; go_simp; exact rv
   refine rc 0 ?_; refine rbq 0 ?_; refine rq 1 (fun ev wo E => ?_) ?_
   · have e45 : ev (.tmp 45) = .string TX := E.e 0; have ef := E.func; have ec := E.const; go_simp; refine relUpon_enter ((HCN.out wo).mono ?_); rintro e w' ⟨rfl, hw⟩; exact ⟨_, rfl, by rw [hw]; exact Below.refl _ _, rfl⟩
   refine rq 0 (fun ev wo E => ?_) ?_
   · have e3 : ev (.tmp 3) = .pointer (some ⟨sb, 0, none⟩) := (E.base 3 rfl).trans rfl; go_simp; exact rv
   refine rq 1 (fun ev wo E => ?_) ?_
   · have e47 : ev (.tmp 47) = .pointer (some ⟨sb, 0, none⟩) := E.e 0; have hx0 := cell_of_block (i := 0) (block_kept QS.out E.bel) rfl; go_simp; exact rv
   refine rq 1 (fun ev wo E => ?_) ?_
   · have e48 : ev (.tmp 48) = .slice A3 N c3 := E.e 0; go_simp; exact rv
   refine rq 2 (fun ev wo E => ?_) ?_
   · have e46 : ev (.tmp 46) = .int .i64 N := E.e 0; have e49 : ev (.tmp 49) = .int .i64 N := E.e 1; go_simp; exact rv
   refine rf (fun ev wo E => ?_) ?_
   · have e44 : ev (.tmp 44) = .bool true := E.e 0; have e50 : ev (.tmp 50) = .bool true := E.e 1; have ec := E.const; go_simp; exact rv
   refine ⟨prem_copy 0 (WantOk.free rfl) (.inr rfl) rfl rfl rfl rfl (isV_stable _), ?_⟩; trivial
 · intro wz bz
   (iterate 29 rintro _ rfl); have BZ := Lib.hid (BY.out.trans (bz.mono BY.out.size)); clear bz; simp only [relEnd]; go_simp
   go_wp2_with fail
   go_ret
   exact ⟨rfl, BZ.out⟩
end Go.Proofs.YthlinmkengoliaaGreatDoor
