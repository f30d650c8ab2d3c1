/- Rows: what Check answers. Evolve: a row moved on by one step: the package's answer. -/
import Derived.Test.YtikpmmipopmjaaaGreatDoorYQbc
set_option maxRecDepth 100000
set_option linter.unusedVariables false
namespace Go.Proofs.YtikpmmipopmjaaaGreatDoor
open Go.RowKit Go.Ms Go.Lib
structure SeesCols (w : World) (p : Addr) (A : Option Addr) (n cap : Nat) (ts : List Ty) (xs : List Value) : Prop where
  box : w.cell? p = some (.slice A n cap)
  cols : Cols w w.heap.size A ts xs
  len : n = ts.length
theorem check1_any (w : World) (i : Nat) (c : Cl) (p : Addr) (A : Option Addr) (n cap : Nat) (ts : List Ty) (xs : List Value) (t : Ty) (hsz : c.2.2.size ≤ 100000) (hn : n ≤ maxLen) (hi : ts[i]? = some t) (hS : SeesCols w p A n cap ts xs) (hE : Env w) :
    Calls Tryz.prog 71 #[.int .i64 i, .agg #[.bool c.1, .int .i64 c.2.1, .string c.2.2], .pointer (some p)] w fun e w' => e = .returned (.int .i64 (cCheck t c)) ∧ Below w.heap.size w w' := by
 unfold maxLen at hn
 have hin : i < n := by rw [hS.len]; exact (List.getElem?_eq_some_iff.1 hi).1
 obtain ⟨g, o, rfl, hb, h2, h3⟩ := hS.cols.ty hi; have hbox := hS.box; obtain ⟨u, m, S⟩ := c; obtain ⟨k, tn⟩ := t
 have hcc : ∀ w', Env w' → Calls Tryz.prog 60 #[.agg #[.int .i64 k, .bool tn], .agg #[.bool u, .int .i64 m, .string S]] w' fun e w'' => e = .returned (.int .i64 (cCheck (k, tn) (u, m, S))) ∧ Below w'.heap.size w' w'' := fun w' h => kcheck_any k tn u m S w' hsz h
 generalize cCheck (k, tn) (u, m, S) = C at *
 have HC := hh_ hcc; have HE := hh_ hE; simp only at h2 h3; clear hcc hE hS hi hn; have l1 := cell_lt hbox; obtain ⟨V, hV⟩ : ∃ V, w.alloc (.cells #[.bool u, .int .i64 m, .string S] 57) = V := ⟨_, rfl⟩
 have hbel : Below w.heap.size w V := by rw [← hV]; exact br_.alloc le_ _
 have hnew : V.heap[w.heap.size]? = some (.cells #[.bool u, .int .i64 m, .string S] 57 (0, 0)) := by rw [← hV]; exact heap_alloc_new w _
 have hD : (V.drew.cell? ⟨w.heap.size, 0, none⟩ = some (.bool u) ∧ V.drew.cell? ⟨w.heap.size, 1, none⟩ = some (.int .i64 m) ∧ V.drew.cell? ⟨w.heap.size, 2, none⟩ = some (.string S) ∧ V.drew.cell? p = some (.slice (some ⟨g, o, none⟩) n cap) ∧ V.drew.cell? ⟨g, o + i * 7 + 2, none⟩ = some (.int .i64 k) ∧ V.drew.cell? ⟨g, o + i * 7 + 2 + 1, none⟩ = some (.bool tn)) ∧ Below w.heap.size w V.drew :=
   ⟨⟨by show V.cell? _ = _; rw [Lib.cell_of_heap hnew]; rfl, by show V.cell? _ = _; rw [Lib.cell_of_heap hnew]; rfl, by show V.cell? _ = _; rw [Lib.cell_of_heap hnew]; rfl, (hbel.cell l1).trans hbox, (hbel.cell hb).trans h2, (hbel.cell hb).trans h3⟩, ms_drewN hbel 1⟩
 have HV := hh_ hV; have HD := hh_ hD; clear hV hbel hnew hD hbox h2 h3
 go_enter Tryz.func71, Tryz.ntmps71
 go_wp2_with fail
 rw [HV.out]
 go_region_held3 (fun w' => (w'.cell? ⟨w.heap.size, 0, none⟩ = some (.bool u) ∧ w'.cell? ⟨w.heap.size, 1, none⟩ = some (.int .i64 m) ∧ w'.cell? ⟨w.heap.size, 2, none⟩ = some (.string S) ∧ w'.cell? p = some (.slice (some ⟨g, o, none⟩) n cap) ∧ w'.cell? ⟨g, o + i * 7 + 2, none⟩ = some (.int .i64 k) ∧ w'.cell? ⟨g, o + i * 7 + 2 + 1, none⟩ = some (.bool tn)) ∧ Below w.heap.size w w')
   (first
     | exact HD.out
     | exact ykeep6 HD.out bb
     | exact ykeep6 (by assumption) bb
     | (go_keep; done))
   (((with_reducible refine (HC.out _ ?_).mono ?_); exact HE.out.below (And.right (by assumption)); rintro en w5 ⟨rfl, bb⟩))
 all_goals
  go_wp2_with fail
  go_ret
  exact ⟨rfl, endK (by assumption)⟩
theorem SeesCols.below {w w' : World} {p : Addr} {A : Option Addr} {n cap : Nat} {ts : List Ty} {xs : List Value} (h : SeesCols w p A n cap ts xs) (hb : Below w.heap.size w w') : SeesCols w' p A n cap ts xs :=
  ⟨(hb.cell (cell_lt h.box)).trans h.box, (h.cols.below hb).more hb.size, h.len⟩
theorem rCheckL_drop {ts : List Ty} {cs : List Cl} {k : Nat} {t : Ty} {c : Cl} (ht : ts[k]? = some t) (hc : cs[k]? = some c) :
    rCheckL (ts.drop k) (cs.drop k) = if cCheck t c = 0 then rCheckL (ts.drop (k + 1)) (cs.drop (k + 1)) else cCheck t c := by
 obtain ⟨h1, rfl⟩ := List.getElem?_eq_some_iff.1 ht; obtain ⟨h2, rfl⟩ := List.getElem?_eq_some_iff.1 hc; rw [List.drop_eq_getElem_cons h1, List.drop_eq_getElem_cons h2]; rfl
theorem firstCell_any (w : World) (p : Addr) (A B : Option Addr) (n cap m capm : Nat) (ts : List Ty) (xs : List Value) (cs : List Cl) (hsz : ∀ c ∈ cs, c.2.2.size ≤ 100000) (hn : n ≤ maxLen) (hm : m = cs.length) (hlen : n = m) (hS : SeesCols w p A n cap ts xs) (hL : Lay w w.heap.size B (rowV cs)) (hE : Env w) :
    Calls Tryz.prog 70 #[.slice B m capm, .func (.func 71) #[] #[.pointer (some p)]] w fun e w' => e = .returned (.int .i64 (rCheckL ts cs)) ∧ Below w.heap.size w w' := by
 have hlt : ts.length = cs.length := by rw [← hS.len, ← hm]; exact hlen
 have hck := fun (w' : World) (i : Nat) (c : Cl) (t : Ty) (hc : c.2.2.size ≤ 100000) (hi : ts[i]? = some t) (hS' : SeesCols w' p A n cap ts xs) (hE' : Env w') => check1_any w' i c p A n cap ts xs t hc hn hi hS' hE'
 unfold maxLen at hn
 have HS := hh_ hS; have HL := hh_ hL; have HE := hh_ hE; have HK := hh_ hck; have HZ := hh_ hsz
 have HM := hh_ hm; have HT := hh_ hlt
 have hmb : m ≤ 9223372036854775807 := by omega
 clear hS hL hE hck hsz hm hlt hlen
 go_enter Tryz.func70, Tryz.ntmps70
 go_wp2_with fail
 go_loopw [10] (fun id wr => ∃ k : Nat, k ≤ m ∧ id = .int .i64 k ∧ Below w.heap.size w wr ∧ rCheckL ts cs = rCheckL (ts.drop k) (cs.drop k)) (fun id _ => m - (RowKit.intOf id).toNat)
 case atStart => exact ⟨0, by omega, rfl, Below.refl _ _, rfl⟩
 case round =>
  obtain ⟨k, hk, rfl, hb, hr⟩ := hrel; have HR := hh_ hr; clear hr
  by_cases hlk : k < m
  · have hki : (k : Int) < m := by omega
    obtain ⟨c, hc⟩ : ∃ c, cs[k]? = some c := ⟨_, List.getElem?_eq_getElem (by rw [← HM.out]; exact hlk)⟩; obtain ⟨t, ht⟩ : ∃ t, ts[k]? = some t := ⟨_, List.getElem?_eq_getElem (by rw [HT.out, ← HM.out]; exact hlk)⟩; obtain ⟨g, o, rfl, hg, h1, h2, h3⟩ := HL.out.cl hc; have g1 := (hb.cell hg).trans h1; have g2 := (hb.cell hg).trans h2; have g3 := (hb.cell hg).trans h3; have hz : c.2.2.size ≤ 100000 := HZ.out c (List.mem_of_getElem? hc); have hd := rCheckL_drop ht hc; obtain ⟨u, nn, S⟩ := c; simp only at g1 g2 g3 hz
    have hcall := fun w' (h : SeesCols w' p A n cap ts xs) (h' : Env w') => HK.out w' k (u, nn, S) t hz ht h h'
    have HC := hh_ hcall; have HD := hh_ hd; have HB := hh_ hb
    clear hcall hd hc ht h1 h2 h3 hb
    generalize cCheck t (u, nn, S) = C at *
    by_cases hz0 : C = 0
    · subst hz0
      go_wp2_with fail
      refine (HC.out _ (HS.out.below (HB.out.alloc HB.out.size _)) (HE.out.below (HB.out.alloc HB.out.size _))).mono ?_; rintro en w1 ⟨rfl, b1⟩; have hb1 := (HB.out.alloc HB.out.size (.cells #[.bool u, .int .i64 nn, .string S] 57)).trans (b1.mono (HB.out.alloc HB.out.size _).size); have HB1 := hh_ hb1; clear hb1 b1
      go_wp2_with fail
      go_roundw
      case rel => exact ⟨k + 1, by omega, by go_num, HB1.out, by rw [HR.out, HD.out]; simp⟩
      case measure => simp [RowKit.intOf]; omega
    · have hz1 : (C != 0) = true := by simpa using hz0
      go_wp2_with fail
      refine (HC.out _ (HS.out.below (HB.out.alloc HB.out.size _)) (HE.out.below (HB.out.alloc HB.out.size _))).mono ?_; rintro en w1 ⟨rfl, b1⟩; have hb1 := (HB.out.alloc HB.out.size (.cells #[.bool u, .int .i64 nn, .string S] 57)).trans (b1.mono (HB.out.alloc HB.out.size _).size); have HB1 := hh_ hb1; have HZ1 := hh_ hz0; clear hb1 b1 hz0
      go_wp2_with fail
      go_ret
      exact ⟨by rw [HR.out, HD.out, if_neg HZ1.out]; rfl, HB1.out⟩
  · have hki : ¬ (k : Int) < m := by omega
    have hkm : k = m := by omega
    have h0 : rCheckL ts cs = 0 := by
     rw [HR.out, hkm, HM.out, List.drop_length]
     cases List.drop cs.length ts <;> rfl
    have H0 := hh_ h0; have HB := hh_ hb; clear h0 hb hkm
    go_wp2_with fail
    go_ret
    exact ⟨by rw [H0.out]; rfl, HB.out⟩
theorem rowCheck_any (w : World) (A B : Option Addr) (n cap m capm : Nat) (ts : List Ty) (xs : List Value) (cs : List Cl) (hsz : ∀ c ∈ cs, c.2.2.size ≤ 100000) (hn : n ≤ maxLen) (hm' : m ≤ maxLen) (hn' : n = ts.length) (hm : m = cs.length) (hC : Cols w w.heap.size A ts xs) (hL : Lay w w.heap.size B (rowV cs)) (hE : Env w) :
    Calls Tryz.prog 35 #[.slice A n cap, .slice B m capm] w fun e w' => e = .returned (.int .i64 (rCheck ts cs)) ∧ Below w.heap.size w w' := by
 have hb0 : Below w.heap.size w (w.alloc (.cells #[.slice A n cap] 22)) := br_.alloc le_ _
 by_cases h : n = m
 · have hc : w.heap.size < (w.alloc (.cells #[.slice A n cap] 22)).heap.size := by simp
   have hcall := firstCell_any (w.alloc (.cells #[.slice A n cap] 22)) ⟨w.heap.size, 0, none⟩ A B n cap m capm ts xs cs hsz hn hm h ⟨by rw [Lib.cell_of_heap (heap_alloc_new w _)]; rfl, (hC.below hb0).more (by simp), hn'⟩ ((hL.below hb0).more (by simp)) (hE.below hb0)
   have hr : rCheck ts cs = rCheckL ts cs := by unfold rCheck; rw [if_pos (by omega)]
   rw [hr]; subst h; unfold maxLen at hn
   have HC := hh_ hcall; have HB := hh_ hb0
   clear hcall hC hL hE hn' hr hc hb0 hm
   go_enter Tryz.func35, Tryz.ntmps35
   go_wp2_with fail
   refine HC.out.mono ?_; rintro en w1 ⟨rfl, b1⟩; have HB1 := hh_ (HB.out.trans (b1.mono HB.out.size)); clear b1
   go_wp2_with fail
   go_ret
   exact ⟨rfl, HB1.out⟩
 · have hr : rCheck ts cs = 100 := by unfold rCheck; rw [if_neg (by omega)]
   rw [hr]
   have hne : ((n : Int) != m) = true := by simp; omega
   have hne2 : (n != m) = true := by simpa using h
   unfold maxLen at hn hm'; clear hr hm hn' h hC hL; have HB := hh_ hb0; clear hb0
   go_enter Tryz.func35, Tryz.ntmps35
   go_wp2_with fail
   go_ret
   exact ⟨rfl, HB.out⟩
end Go.Proofs.YtikpmmipopmjaaaGreatDoor
set_option linter.unusedSimpArgs false
namespace Go.Ms
open Go.RowKit Go.Lib
structure SRef where
  a : Option Addr
  n : Nat
  c : Nat
  b : Option Addr
  m : Nat
  d : Nat
structure ScLay (W : World) (B : Nat) (r : SRef) (s : Sc) : Prop where
  n : r.n = s.1.length
  m : r.m = s.2.length
  nn : r.n ≤ 100000
  mm : r.m ≤ 100000
  la : Lay W B r.a (colV s.1)
  lb : Lay W B r.b (intV s.2)
theorem ScLay.to {W W' : World} {r : SRef} {s : Sc} (h : ScLay W W.heap.size r s) (hb : Below W.heap.size W W') : ScLay W' W'.heap.size r s := ⟨h.n, h.m, h.nn, h.mm, (h.la.below hb).more hb.size, (h.lb.below hb).more hb.size⟩
theorem ScLay.below {W W' : World} {B : Nat} {r : SRef} {s : Sc} (h : ScLay W B r s) (hb : Below B W W') : ScLay W' B r s := ⟨h.n, h.m, h.nn, h.mm, h.la.below hb, h.lb.below hb⟩
theorem ScLay.more {W : World} {B B' : Nat} {r : SRef} {s : Sc} (h : ScLay W B r s) (hb : B ≤ B') : ScLay W B' r s := ⟨h.n, h.m, h.nn, h.mm, h.la.more hb, h.lb.more hb⟩
theorem ids_of {s : Sc} (h : scOk s.1 s.2 = true) : IdsUp s.1 ∧ ∀ c ∈ s.1, 1 ≤ c.1 ∧ c.1 ≤ 1048576 := by
 have h1 := (scOk_iff s.1 s.2).1 h; refine ⟨ids_up h1, fun c hc => ?_⟩; obtain ⟨i, hi⟩ := List.getElem?_of_mem hc; exact h1.id i c hi
theorem evMove_no {a b : Sc} {r : List Cl} (h : ¬ evStep a b = 0) : evMove a b r = ([], evStep a b) := by unfold evMove; rw [if_neg h]
theorem evMove_bad {a b : Sc} {r : List Cl} (h : evStep a b = 0) (h2 : ¬ rCheck (coTys a.1) r = 0) : evMove a b r = ([], rCheck (coTys a.1) r) := by unfold evMove; rw [if_pos h, if_neg h2]
theorem evMove_yes {a b : Sc} {r : List Cl} (h : evStep a b = 0) (h2 : rCheck (coTys a.1) r = 0) : evMove a b r = (evMoved a.1 b.1 r, 0) := by unfold evMove; rw [if_pos h, if_pos h2]
structure RwLay (W : World) (C : Option Addr) (q : Nat) (r : List Cl) : Prop where
  ql : q = r.length
  qq : q ≤ 100000
  lay : Lay W W.heap.size C (rowV r)
  sz : ∀ c ∈ r, c.2.2.size ≤ 100000
theorem RwLay.to {W W' : World} {C : Option Addr} {q : Nat} {r : List Cl} (h : RwLay W C q r) (hb : Below W.heap.size W W') : RwLay W' C q r := ⟨h.ql, h.qq, (h.lay.below hb).more hb.size, h.sz⟩
end Go.Ms
namespace Go.Proofs.YtikpmmipopmjaaaGreatDoor
open Go.RowKit Go.Ms Go.Lib Go.Shelf Go.Rel
def RowPost (w : World) (R : List Cl) (E : Int) : Ending → World → Prop := fun e w' => ∃ v, e = .returned (.tuple #[v, .int .i64 E]) ∧ OwnC w' w.heap.size 57 v R ∧ Below w.heap.size w w'
set_option maxHeartbeats 4000000 in
theorem move_any (ra rb : SRef) (s t : Sc) (C : Option Addr) (q qcap : Nat) (r : List Cl) (w : World) (ha : ScLay w w.heap.size ra s) (hb : ScLay w w.heap.size rb t) (hz : ScSz s.1) (kz : ScSz t.1) (hr : RwLay w C q r) (hE : Env w) :
    Calls Tryz.prog 15 #[.agg #[.slice ra.a ra.n ra.c, .slice ra.b ra.m ra.d], .agg #[.slice rb.a rb.n rb.c, .slice rb.b rb.m rb.d], .slice C q qcap] w (RowPost w (evMove s t r).1 (evMove s t r).2) := by
 obtain ⟨X, hX⟩ : ∃ X, X = (w.alloc (.cells #[.slice ra.a ra.n ra.c, .slice ra.b ra.m ra.d] 25)).alloc (.cells #[.slice rb.a rb.n rb.c, .slice rb.b rb.m rb.d] 25) := ⟨_, rfl⟩
 have tX : TwoBx 25 #[.slice ra.a ra.n ra.c, .slice ra.b ra.m ra.d] #[.slice rb.a rb.n rb.c, .slice rb.b rb.m rb.d] w X := by rw [hX]; exact TwoBx.start _ _ _ w
 have a1 := ha.to tX.bel; have b1 := hb.to tX.bel; have h1 := step_any ra.a ra.b ra.n ra.c ra.m ra.d s.1 s.2 rb.a rb.b rb.n rb.c rb.m rb.d t.1 t.2 X a1.n a1.m a1.nn a1.mm a1.la a1.lb hz b1.n b1.m b1.nn b1.mm b1.la b1.lb kz (hE.below tX.bel)
 have h2 := fun (W : World) (hb : Below w.heap.size w W) => rowCheck_any W ra.a C ra.n ra.c q qcap (coTys s.1) (colV s.1) r hr.sz (by have := ha.nn; unfold maxLen; omega) (by have := hr.qq; unfold maxLen; omega) (by rw [coTys_len]; exact ha.n) hr.ql (ha.to hb).la.cols (hr.to hb).lay (hE.below hb)
 have H1 := hh_ h1; have H2 := hh_ h2; have T0 := hh_ tX; have HA := hh_ ha; have HB := hh_ hb; have HR := hh_ hr
 clear h1 h2 tX ha hb hr hz kz hE a1 b1
 by_cases hs : evStep s t = 0
 · obtain ⟨ks1, ks2, -⟩ := step_parts hs; obtain ⟨iu, ii⟩ := ids_of ks1; obtain ⟨-, ji⟩ := ids_of ks2; have hs' : evStep (s.1, s.2) (t.1, t.2) = 0 := hs; rw [hs'] at H1; clear hs' ks1 ks2
   by_cases hc : rCheck (coTys s.1) r = 0
   · have hlen := (rCheck_parts hc).1; rw [coTys_len] at hlen
     have hm := fun (W : World) (hb : Below w.heap.size w W) => moved_any ra.a ra.b ra.n ra.c ra.m ra.d s.1 s.2 rb.a rb.b rb.n rb.c rb.m rb.d t.1 t.2 C q qcap r W HA.out.n HA.out.nn (HA.out.to hb).la iu ii HB.out.n HB.out.nn (HB.out.to hb).la (HB.out.to hb).lb ji HR.out.ql (HR.out.to hb).lay (by rw [HA.out.n, HR.out.ql]; exact hlen)
     have he := evMove_yes hs hc; rw [he]; rw [hc] at H2; have HM := hh_ hm; clear hm he hs hc iu ii ji hlen
     go_enter Tryz.func15, Tryz.ntmps15
     go_wp2_with fail
     rw [← hX]; clear hX; refine H1.out.mono ?_; rintro en w1 ⟨rfl, b1⟩; have T1 := hh_ (T0.out.step b1); have y0 := cb_ 0 T1.out.b0 rfl; clear b1
     go_wp2_with fail
     refine (H2.out _ T1.out.bel).mono ?_; rintro en w2 ⟨rfl, b2⟩; have T2 := hh_ (T1.out.step b2); have y1 := cb_ 0 T2.out.b0 rfl; have y2 := cb_ 1 T2.out.b0 rfl; have y3 := cb_ 0 T2.out.b1 rfl; have y4 := cb_ 1 T2.out.b1 rfl; clear b2 y0
     go_wp2_with fail
     refine (HM.out _ T2.out.bel).mono ?_; rintro en w3 ⟨v, rfl, ho, b3⟩
     have HO := hh_ (own_more ho T2.out.bel.size); have B3 := hh_ (T2.out.bel.trans (b3.mono T2.out.bel.size))
     clear b3 ho y1 y2 y3 y4
     go_wp2_with fail
     go_ret2
     exact ⟨_, rfl, HO.out, B3.out⟩
   · have he := evMove_bad hs hc; rw [he]; clear he hs iu ii ji
     generalize rCheck (coTys s.1) r = Z at H2 hc ⊢
     have hcz : (Z != 0) = true := by simpa using hc
     go_enter Tryz.func15, Tryz.ntmps15
     go_wp2_with fail
     rw [← hX]; clear hX; refine H1.out.mono ?_; rintro en w1 ⟨rfl, b1⟩; have T1 := hh_ (T0.out.step b1); have y0 := cb_ 0 T1.out.b0 rfl; clear b1
     go_wp2_with fail
     refine (H2.out _ T1.out.bel).mono ?_; rintro en w2 ⟨rfl, b2⟩; have B2 := hh_ (T1.out.step b2).bel; clear b2 y0
     go_wp2_with fail
     go_ret2
     exact ⟨_, rfl, World.ownsRow_nil _ _ _ _, B2.out⟩
 · have he := evMove_no (r := r) hs; rw [he]; have hs' : ¬ evStep (s.1, s.2) (t.1, t.2) = 0 := hs; clear he hs
   show Calls _ _ _ w (RowPost w [] (evStep (s.1, s.2) (t.1, t.2)))
   generalize evStep (s.1, s.2) (t.1, t.2) = Z at H1 hs' ⊢
   have hcz : (Z != 0) = true := by simpa using hs'
   go_enter Tryz.func15, Tryz.ntmps15
   go_wp2_with fail
   rw [← hX]; clear hX; refine H1.out.mono ?_; rintro en w1 ⟨rfl, b1⟩; have B1 := hh_ (T0.out.step b1).bel; clear b1
   go_wp2_with fail
   go_ret2
   exact ⟨_, rfl, World.ownsRow_nil _ _ _ _, B1.out⟩
end Go.Proofs.YtikpmmipopmjaaaGreatDoor
