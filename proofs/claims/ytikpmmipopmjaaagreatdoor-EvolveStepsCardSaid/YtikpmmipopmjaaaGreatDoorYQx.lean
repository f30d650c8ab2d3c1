/- Evolve's laws: a row cut, in memory of its own; a row made another one, in place. Schemas that follow each other, plainly: a row that is moved is a row of the later columns, and has the same key. Schemas that follow each other, plainly: the chain of a seed. Schemas that follow each other, plainly: a seed's versions are a chain. Schemas that follow each other, plainly: a seed's rows, and what the laws say of them. Schemas that follow each other, plainly: a row carried in parts; what EvolveRows and EvolveCells say. Schemas that follow each other, plainly: a version that is turned in one thing. Schemas that follow each other, plainly: what EvolveSpoilt says. Schemas that follow each other, plainly: as the package asks it. A range over a function that only reads what its captured block holds: the law for the loop, and what such an iterator promises. A range over a function that only reads: what is assigned may lie in a box. -/
import Derived.Test.YtikpmmipopmjaaaGreatDoorYQu
import Derived.Test.YtikpmmipopmjaaaGreatDoorYQw
import Derived.Lib.MinMax
set_option maxRecDepth 100000
set_option linter.unusedVariables false
set_option linter.unusedSimpArgs false
namespace Go.Ms
open Go.RowKit Go.Lib
def cutCl (c : Cl) : Cl := (c.1, c.2.1, c.2.2.extract 0 (min c.2.2.size 1100))
theorem rowV_cons (x : Cl) (m : List Cl) : rowV (x :: m) = .bool x.1 :: .int .i64 x.2.1 :: .string x.2.2 :: rowV m := rfl
theorem rowV_set : ∀ (l : List Cl) (k : Nat) (c : Cl), k < l.length → (((rowV l).set (k * 3) (.bool c.1)).set (k * 3 + 1) (.int .i64 c.2.1)).set (k * 3 + 2) (.string c.2.2) = rowV (l.set k c)
  | [], k, c, h => by simp at h
  | a :: t, 0, c, h => rfl
  | a :: t, k + 1, c, h => by
   have ih := rowV_set t k c (by simpa using h)
   have e0 : (k + 1) * 3 = k * 3 + 3 := by omega
   rw [List.set_cons_succ, rowV_cons, rowV_cons, e0]; simp only [Nat.add_assoc, Nat.reduceAdd, List.set_cons_succ]; rw [ih]
theorem rowV_sets : ∀ (l : List Cl) (k : Nat) (c : Cl) (s : ByteArray), l[k]? = some c → (rowV l).set (k * 3 + 2) (.string s) = rowV (l.set k (c.1, c.2.1, s))
  | [], k, c, s, h => by simp at h
  | a :: t, 0, c, s, h => by
   obtain rfl : a = c := by simpa using h
   rfl
  | a :: t, k + 1, c, s, h => by
   have ih := rowV_sets t k c s (by simpa using h)
   have e0 : (k + 1) * 3 = k * 3 + 3 := by omega
   rw [List.set_cons_succ, rowV_cons, rowV_cons, e0]; simp only [Nat.add_assoc, Nat.reduceAdd, List.set_cons_succ]; rw [ih]
theorem rowV_take : ∀ (l : List Cl) (n : Nat), rowV (l.take n) = (rowV l).take (n * 3)
  | l, 0 => by simp [rowV]
  | [], n + 1 => by simp [rowV]
  | a :: t, n + 1 => by
   rw [List.take_succ_cons, rowV_cons, rowV_cons, rowV_take t n, show (n + 1) * 3 = n * 3 + 3 by omega]; simp only [List.take_succ_cons]
theorem map_step {α : Type} (f : α → α) {l : List α} {k : Nat} {c : α} (hc : l[k]? = some c) : ((l.take k).map f ++ l.drop k).set k (f c) = (l.take (k + 1)).map f ++ l.drop (k + 1) := by
 have hk : k < l.length := (List.getElem?_eq_some_iff.1 hc).1
 have e1 : ((l.take k).map f).length = k := by rw [List.length_map, List.length_take]; omega
 have e2 : l.drop k = c :: l.drop (k + 1) := by
  have := List.getElem?_eq_some_iff.1 hc; rw [List.drop_eq_getElem_cons hk, this.2]
 rw [List.set_append_right _ _ (by omega), e1, Nat.sub_self, e2, List.set_cons_zero, List.take_add_one, hc]
 simp
theorem map_at {α : Type} (f : α → α) {l : List α} {k : Nat} {c : α} (hc : l[k]? = some c) : ((l.take k).map f ++ l.drop k)[k]? = some c := by
 have hk : k < l.length := (List.getElem?_eq_some_iff.1 hc).1
 have e1 : ((l.take k).map f).length = k := by rw [List.length_map, List.length_take]; omega
 rw [List.getElem?_append_right (by omega), e1, Nat.sub_self, List.getElem?_drop]; exact hc
theorem own_cl {w : World} {B n cap g : Nat} {e : TypeId} {l : List Cl} {k : Nat} {c : Cl} (h : OwnC w B e (.slice (some ⟨g, 0, none⟩) n cap) l) (hc : l[k]? = some c) :
    w.cell? ⟨g, k * 3, none⟩ = some (.bool c.1) ∧ w.cell? ⟨g, k * 3 + 1, none⟩ = some (.int .i64 c.2.1) ∧ w.cell? ⟨g, k * 3 + 2, none⟩ = some (.string c.2.2) ∧
    w.frozen? ⟨g, k * 3, none⟩ = false ∧ w.frozen? ⟨g, k * 3 + 1, none⟩ = false ∧ w.frozen? ⟨g, k * 3 + 2, none⟩ = false := by
 have hl := h.lay; have hk : k < l.length := (List.getElem?_eq_some_iff.1 hc).1; obtain ⟨k0, k1, k2⟩ := rowV_at l k c hc
 have h' : w.ownsRow B e 3 (.slice (some ⟨g, 0, none⟩) n cap) n (rowV l) := by unfold OwnC at h; rw [← hl.1] at h; exact h
 have hn := hl.1
 have hcell : ∀ j, j < n * 3 → w.cell? ⟨g, j, none⟩ = (rowV l)[j]? := fun j hj => World.ownsRow.cellAt h' j hj
 exact ⟨(hcell _ (by omega)).trans k0, (hcell _ (by omega)).trans k1, (hcell _ (by omega)).trans k2, World.ownsRow.frozenAt h' _, World.ownsRow.frozenAt h' _, World.ownsRow.frozenAt h' _⟩
theorem own_puts {w : World} {B n cap g : Nat} {e : TypeId} {l : List Cl} {k : Nat} {c : Cl} (h : OwnC w B e (.slice (some ⟨g, 0, none⟩) n cap) l) (hk : l[k]? = some c) (s : ByteArray) :
    OwnC (w.setCell ⟨g, k * 3 + 2, none⟩ (.string s)) B e (.slice (some ⟨g, 0, none⟩) n cap) (l.set k (c.1, c.2.1, s)) := by
 have hl := h.lay
 have h' : w.ownsRow B e 3 (.slice (some ⟨g, 0, none⟩) n cap) n (rowV l) := by unfold OwnC at h; rw [← hl.1] at h; exact h
 unfold OwnC; rw [List.length_set, ← hl.1, ← rowV_sets l k c s hk]; exact (World.ownsRow.stored h' _ _).1
theorem own_putc {w : World} {B n cap g : Nat} {e : TypeId} {l : List Cl} {k : Nat} (h : OwnC w B e (.slice (some ⟨g, 0, none⟩) n cap) l) (hk : k < l.length) (c : Cl) :
    OwnC (((w.setCell ⟨g, k * 3, none⟩ (.bool c.1)).setCell ⟨g, k * 3 + 1, none⟩ (.int .i64 c.2.1)).setCell ⟨g, k * 3 + 2, none⟩ (.string c.2.2)) B e (.slice (some ⟨g, 0, none⟩) n cap) (l.set k c) := by
 have hl := h.lay
 have h' : w.ownsRow B e 3 (.slice (some ⟨g, 0, none⟩) n cap) n (rowV l) := by unfold OwnC at h; rw [← hl.1] at h; exact h
 unfold OwnC; rw [List.length_set, ← hl.1, ← rowV_set l k c hk]; exact (World.ownsRow.stored (World.ownsRow.stored (World.ownsRow.stored h' _ _).1 _ _).1 _ _).1
theorem own_addr {w : World} {B n cap : Nat} {e : TypeId} {A : Option Addr} {l : List Cl} (h : OwnC w B e (.slice A n cap) l) (hl : 0 < l.length) : ∃ g, A = some ⟨g, 0, none⟩ := by
 rcases h.2 with ⟨_, h0⟩ | ⟨g, cap', cur, hv, _⟩
 · omega
 · injection hv with h1; exact ⟨g, h1⟩
end Go.Ms
namespace Go.Proofs.YtikpmmipopmjaaaGreatDoor
open Go.RowKit Go.Ms Go.Lib Go.Rel
set_option maxHeartbeats 1000000 in
theorem cells12_any (w : World) (A : Option Addr) (n cap : Nat) (l : List Cl) (hn : n ≤ cap) (hcap : cap ≤ maxLen) (hl : l.length = n) (hA : Ext w w.heap.size A (rowV l)) :
    Calls Tryz.prog 12 #[.slice A n cap] w fun e w' => ∃ A' c', e = .returned (.slice A' (min n 40) c') ∧ OwnC w' w.heap.size 57 (.slice A' (min n 40) c') ((l.take 40).map cutCl) ∧ Below w.heap.size w w' := by
 obtain ⟨N, hN⟩ : ∃ N : Nat, N = min n 40 := ⟨_, rfl⟩; rw [← hN]; have hc := copyrow_any w A N cap (l.take 40) (by omega) (by rw [List.length_take]; omega) (by rw [show rowV (l.take 40) = (rowV l).take (40 * 3) from rowV_take l 40]; exact hA.take _)
 have hmin : min (n : Int) 40 = (N : Int) := by omega
 have hN1 : (N : Int) ≤ cap := by omega
 have hN2 : (0 : Int) ≤ (N : Int) := by omega
 have hNc : N ≤ cap := by omega
 have hNl : (l.take 40).length = N := by rw [List.length_take]; omega
 have hN40 : N ≤ 40 := by omega
 generalize hls : l.take 40 = r at hc hNl ⊢
 unfold maxLen at hcap
 have HC := hh_ hc; have HNL := hh_ hNl
 clear hc hA hls hl hN hNl
 go_enter Tryz.func12, Tryz.ntmps12
 go_wp2_with fail
 refine HC.out.mono ?_; rintro en w1 ⟨v, rfl, ho1, b1⟩; obtain ⟨A1, c1, e1, _⟩ := yown_slice ho1; rw [HNL.out] at e1; subst e1
 have O1 := hh_ ho1; have B1 := hh_ b1
 clear ho1 b1 hmin hN1 hN2 hNc
 go_wp2_with fail
 go_loopw [3] (fun i wr => ∃ k : Nat, k ≤ N ∧ i = .int .i64 k ∧ OwnC wr w.heap.size 57 (.slice A1 N c1) ((r.take k).map cutCl ++ r.drop k) ∧ Below w.heap.size w wr) (fun i _ => N - (RowKit.intOf i).toNat)
 case atStart => exact ⟨0, by omega, rfl, by simpa using O1.out, B1.out⟩
 case round =>
  obtain ⟨k, hk, rfl, ho, hb⟩ := hrel
  by_cases hlk : k < N
  · have hki : (k : Int) < N := by omega
    obtain ⟨c, hc⟩ : ∃ c, r[k]? = some c := ⟨_, List.getElem?_eq_getElem (by rw [HNL.out]; omega)⟩; have hca := map_at cutCl hc; have hlen : k < ((r.take k).map cutCl ++ r.drop k).length := (List.getElem?_eq_some_iff.1 hca).1; obtain ⟨g, rfl⟩ := own_addr ho (by omega); obtain ⟨hgb, hgl⟩ := World.ownsRow.lt ho g rfl; have hstep := map_step cutCl hc
    have hput := fun (W : World) (hW : OwnC W w.heap.size 57 (.slice (some ⟨g, 0, none⟩) N c1) ((r.take k).map cutCl ++ r.drop k)) => own_puts hW hca (c.2.2.extract 0 (min c.2.2.size 1100))
    rw [show ((c.1, c.2.1, c.2.2.extract 0 (min c.2.2.size 1100)) : Cl) = cutCl c from rfl, hstep] at hput
    have hcl := fun (W : World) (hW : OwnC W w.heap.size 57 (.slice (some ⟨g, 0, none⟩) N c1) ((r.take k).map cutCl ++ r.drop k)) => own_cl hW hca
    obtain ⟨u0, m0, s0⟩ := c; obtain ⟨a, ha⟩ : ∃ a : Nat, a = min s0.size 1100 := ⟨_, rfl⟩
    have ma : min (s0.size : Int) 1100 = (a : Int) := by omega
    have la : (a : Int) ≤ s0.size := by omega
    have la0 : (0 : Int) ≤ (a : Int) := by omega
    have la1 : a ≤ s0.size := by omega
    simp only [← ha] at hput
    have HO := hh_ ho; have HB := hh_ hb; have HPUT := hh_ hput; have HCL := hh_ hcl; have HMA := hh_ ma; have HLA := hh_ la; have HLA0 := hh_ la0; have HLA1 := hh_ la1
    clear ho hb hput hcl hca hstep hc ha ma la la0 la1 hlen
    go_wp2_with fail
    refine wp_region_tail (l := [_, _, _, _, _, _, _, _, _, _, _, _, _, _, _, _, _]) (o := _) (t := []) [isV (.slice (some ⟨g, 0, none⟩) N c1), isV (.int .i64 (k : Nat)), isV (.slice (some ⟨g, 0, none⟩) N c1), isV (.int .i64 (k : Nat)), isV (.pointer (some ⟨g, k * 3, none⟩)), isV (.pointer (some ⟨g, k * 3 + 2, none⟩)), isV (.string s0), isV (.slice (some ⟨g, 0, none⟩) N c1), isV (.int .i64 (k : Nat)), isV (.pointer (some ⟨g, k * 3, none⟩)), isV (.pointer (some ⟨g, k * 3 + 2, none⟩)), isV (.string s0), isV (.int .i64 s0.size), isV (.int .i64 (a : Nat)), isV (.string (s0.extract 0 a)), isV (.pointer (some ⟨g, k * 3, none⟩)), isV (.pointer (some ⟨g, k * 3 + 2, none⟩))] (by kernel_rfl) (by kernel_rfl) (by kernel_rfl) (by kernel_rfl) (by kernel_rfl) (by kernel_rfl) (by kernel_rfl) ?_ ?_
    ·
      refine rb ?_; refine rb ?_; refine rb ?_; refine rb ?_; refine rf (fun ev wo E => ?_) ?_
      · have e18 : ev (.tmp 18) = .slice (some ⟨g, 0, none⟩) N c1 := E.e 0; have e19 : ev (.tmp 19) = .int .i64 (k : Nat) := E.e 1; have h1 := hki; have h2 := hlk; go_simp; exact rv
      refine rf (fun ev wo E => ?_) ?_
      · have e20 : ev (.tmp 20) = .pointer (some ⟨g, k * 3, none⟩) := E.e 0; go_simp; exact rv
      refine rf (fun ev wo E => ?_) ?_
      · have e21 : ev (.tmp 21) = .pointer (some ⟨g, k * 3 + 2, none⟩) := E.e 0; obtain ⟨-, -, hx, -, -, -⟩ := HCL.out _ (own_below HO.out E.bel); go_simp; exact rv
      refine rb ?_; refine rb ?_; refine rf (fun ev wo E => ?_) ?_
      · have e23 : ev (.tmp 23) = .slice (some ⟨g, 0, none⟩) N c1 := E.e 0; have e24 : ev (.tmp 24) = .int .i64 (k : Nat) := E.e 1; have h1 := hki; have h2 := hlk; go_simp; exact rv
      refine rf (fun ev wo E => ?_) ?_
      · have e25 : ev (.tmp 25) = .pointer (some ⟨g, k * 3, none⟩) := E.e 0; go_simp; exact rv
      refine rf (fun ev wo E => ?_) ?_
      · have e26 : ev (.tmp 26) = .pointer (some ⟨g, k * 3 + 2, none⟩) := E.e 0; obtain ⟨-, -, hx, -, -, -⟩ := HCL.out _ (own_below HO.out E.bel); go_simp; exact rv
      refine rf (fun ev wo E => ?_) ?_
      · have e27 : ev (.tmp 27) = .string s0 := E.e 0; go_simp; exact rv
      refine rf (fun ev wo E => ?_) ?_
      · have e28 : ev (.tmp 28) = .int .i64 s0.size := E.e 0; have ec := E.const; have h0 := HMA.out; go_simp; exact rv
      refine rf (fun ev wo E => ?_) ?_
      · have e22 : ev (.tmp 22) = .string s0 := E.e 0; have e29 : ev (.tmp 29) = .int .i64 (a : Nat) := E.e 1; have h0 := HLA.out; have h1 := HLA0.out; have h2 := HLA1.out; go_simp; exact rv
      refine rf (fun ev wo E => ?_) ?_
      · have e16 : ev (.tmp 16) = .slice (some ⟨g, 0, none⟩) N c1 := E.e 0; have e17 : ev (.tmp 17) = .int .i64 (k : Nat) := E.e 1; have h1 := hki; have h2 := hlk; go_simp; exact rv
      refine rf (fun ev wo E => ?_) ?_
      · have e31 : ev (.tmp 31) = .pointer (some ⟨g, k * 3, none⟩) := E.e 0; go_simp; exact rv
      trivial
    · intro wz bz
      (iterate 17 rintro _ rfl)
      have HZ := hh_ (own_below HO.out bz); have BZ := hh_ (HB.out.trans (bz.mono HB.out.size))
      have j2 := (HCL.out _ HZ.out).2.2.1; have f2 := (HCL.out _ HZ.out).2.2.2.2.2; have hfin := HPUT.out _ HZ.out; have hbf := BZ.out.setCell (p := ⟨g, k * 3 + 2, none⟩) hgb (.string (s0.extract 0 a))
      have HFIN := hh_ hfin; have HBF := hh_ hbf
      clear bz hfin hbf; simp only [relEnd, tailWp]; unfold Oper.wp; go_simp
      go_wp2_with fail
      go_roundw
      case rel => exact ⟨k + 1, by omega, by go_num, HFIN.out, HBF.out⟩
      case measure => simp [RowKit.intOf]; omega
  · have hki : ¬ (k : Int) < N := by omega
    obtain rfl : k = N := by omega
    have hfull : (r.take k).map cutCl ++ r.drop k = r.map cutCl := by
     rw [List.take_of_length_le (by rw [HNL.out]; exact Nat.le_refl _), List.drop_eq_nil_of_le (by rw [HNL.out]; exact Nat.le_refl _), List.append_nil]
    rw [hfull] at ho
    have HO := hh_ ho; have HB := hh_ hb
    clear ho hb hfull
    go_wp2_with fail
    go_ret
    exact ⟨_, _, rfl, HO.out, HB.out⟩
set_option maxHeartbeats 4000000 in
theorem spoil12_any (w : World) (B : Nat) (v : Value) (l : List Cl) (ho : OwnC w B 57 v l) (hn : l.length ≤ 100000) (hB : B ≤ w.heap.size) :
    Calls Tryz.prog 20 #[v] w fun e w' => e = .returned (.tuple #[]) ∧ Below B w w' := by
 obtain ⟨A, c, rfl, -, -⟩ := yown_slice ho; obtain ⟨N, hN⟩ : ∃ N, l.length = N := ⟨_, rfl⟩; rw [hN] at ho hn ⊢
 have O0 := hh_ ho; have HN := hh_ hN
 clear ho hN
 go_enter Tryz.func20, Tryz.ntmps20
 go_wp2_with fail
 go_loopw [2] (fun i wr => ∃ k : Nat, k ≤ N ∧ i = .int .i64 k ∧ (∃ l' : List Cl, l'.length = N ∧ OwnC wr B 57 (.slice A N c) l') ∧ Below B w wr) (fun i _ => N - (RowKit.intOf i).toNat)
 case atStart => exact ⟨0, by omega, rfl, ⟨l, HN.out, O0.out⟩, ⟨rfl, rfl, rfl, Nat.le_refl _, fun _ _ => rfl⟩⟩
 case round =>
  obtain ⟨k, hk, rfl, ⟨l', hl', ho⟩, hb⟩ := hrel
  by_cases hlk : k < N
  · have hki : (k : Int) < N := by omega
    obtain ⟨x, hx⟩ : ∃ x, l'[k]? = some x := ⟨_, List.getElem?_eq_getElem (by omega)⟩; obtain ⟨g, rfl⟩ := own_addr ho (by omega); obtain ⟨hgb, hgl⟩ := World.ownsRow.lt ho g rfl; obtain ⟨j0, j1, j2, f0, f1, f2⟩ := own_cl ho hx; have hput := own_putc ho (by omega : k < l'.length) (false, -9, ⟨#[115, 112, 111, 105, 108, 116]⟩); have hbf := ((hb.setCell (p := ⟨g, k * 3, none⟩) hgb (.bool false)).setCell (p := ⟨g, k * 3 + 1, none⟩) hgb (.int .i64 (-9))).setCell (p := ⟨g, k * 3 + 2, none⟩) hgb (.string ⟨#[115, 112, 111, 105, 108, 116]⟩)
    have HPUT := hh_ hput; have HBF := hh_ hbf; have HL := hh_ (show (l'.set k (false, -9, ⟨#[115, 112, 111, 105, 108, 116]⟩)).length = N by rw [List.length_set, hl'])
    clear hput hbf ho hb hl' hx
    go_wp2_with fail
    go_roundw
    case rel => exact ⟨k + 1, by omega, by go_num, ⟨_, HL.out, HPUT.out⟩, HBF.out⟩
    case measure => simp [RowKit.intOf]; omega
  · have hki : ¬ (k : Int) < N := by omega
    have HB := hh_ hb; clear hb
    go_wp2_with fail
    go_end0
    exact ⟨rfl, HB.out⟩
end Go.Proofs.YtikpmmipopmjaaaGreatDoor
namespace Go.Ms
theorem rCheck_parts {ts : List Ty} {cs : List Cl} (h : rCheck ts cs = 0) : ts.length = cs.length ∧ rCheckL ts cs = 0 := by
 unfold rCheck at h
 split at h
 · exact ⟨by assumption, h⟩
 · omega
theorem coTys_len (cs : List Co) : (coTys cs).length = cs.length := by unfold coTys; rw [List.length_map]
end Go.Ms
namespace Go.Ms
end Go.Ms
namespace Go.Ms
end Go.Ms
namespace Go.Ms
end Go.Ms
namespace Go.Ms
theorem chain_ok {L : List Sc} (h : evChain L = 0) : ∀ t ∈ L, scOk t.1 t.2 = true := by
 cases L with
 | nil => intro t ht; simp at ht
 | cons s l => exact (chain_parts h).2.1
theorem step_parts {a b : Sc} (h : evStep a b = 0) : scOk a.1 a.2 = true ∧ scOk b.1 b.2 = true ∧ evFollows a b (evLast a.1) = true := by
 unfold evStep at h
 split at h
 · rename_i h1
   split at h
   · rename_i h2; exact ⟨h1.1, h1.2, h2⟩
   · omega
 · omega
theorem last_drop {L : List Sc} {p q : Nat} (h1 : 1 ≤ p) (h2 : p ≤ q) (h3 : q ≤ L.length) : (L.getD (p - 1) zSc :: (L.drop p).take (q - p)).getLast (by simp) = L.getD (q - 1) zSc := by
 rw [List.getLast_eq_getElem]
 have hlen : (L.getD (p - 1) zSc :: (L.drop p).take (q - p)).length = q - p + 1 := by simp; omega
 have key : (L.getD (p - 1) zSc :: (L.drop p).take (q - p))[q - p]? = some (L.getD (q - 1) zSc) := by
  by_cases e : q = p
  · subst e
    simp
  · rw [show q - p = (q - p - 1) + 1 by omega, List.getElem?_cons_succ, List.getElem?_take, if_pos (by omega), List.getElem?_drop, show p + (q - p - 1) = q - 1 by omega, List.getD_eq_getElem?_getD, List.getElem?_eq_getElem (by omega)]; rfl
 obtain ⟨h5, h6⟩ := List.getElem?_eq_some_iff.1 key; rw [← h6]
 congr 1
 omega
end Go.Ms
namespace Go.Ms
end Go.Ms
namespace Go.Ms
def spWide (c : Co) : Co := (c.1, c.2.1, (3, c.2.2.1.2), c.2.2.2)
end Go.Ms
namespace Go.Ms
def evAs (c : Co) : Co := if c.2.2.1.1 = 2 then spWide c else c
theorem as_same {c d : Co} (h : c.1 = d.1) : (decide (evAs c = evAs d) && !(decide (c.2.2.1.1 = 3) && decide (d.2.2.1.1 = 2))) = evSame c d := by
 obtain ⟨i, nm, ⟨k, u⟩, df⟩ := c; obtain ⟨j, nm', ⟨k', u'⟩, df'⟩ := d; simp only at h; subst h; rw [Bool.eq_iff_iff]; unfold evAs evSame spWide; simp only [Bool.and_eq_true, Bool.or_eq_true, Bool.not_eq_true', Bool.and_eq_false_iff, decide_eq_true_eq, decide_eq_false_iff_not, beq_iff_eq]
 by_cases h1 : k = 2
 · by_cases h2 : k' = 2
   · rw [if_pos h1, if_pos h2]; simp only [Prod.mk.injEq, true_and]
     constructor
     · rintro ⟨⟨a, b, c⟩, _⟩; exact ⟨⟨⟨a, c⟩, b⟩, .inl (h1.trans h2.symm)⟩
     · rintro ⟨⟨⟨a, c⟩, b⟩, _⟩; exact ⟨⟨a, b, c⟩, .inl (by omega)⟩
   · rw [if_pos h1, if_neg h2]; simp only [Prod.mk.injEq, true_and]
     constructor
     · rintro ⟨⟨a, ⟨e, b⟩, c⟩, _⟩; exact ⟨⟨⟨a, c⟩, b⟩, .inr ⟨h1, e.symm⟩⟩
     · rintro ⟨⟨⟨a, c⟩, b⟩, e⟩; exact ⟨⟨a, ⟨by omega, b⟩, c⟩, .inl (by omega)⟩
 · by_cases h2 : k' = 2
   · rw [if_neg h1, if_pos h2]; simp only [Prod.mk.injEq, true_and]
     constructor
     · rintro ⟨⟨a, ⟨e, b⟩, c⟩, n⟩; omega
     · rintro ⟨⟨⟨a, c⟩, b⟩, e⟩; omega
   · rw [if_neg h1, if_neg h2]; simp only [Prod.mk.injEq, true_and]
     constructor
     · rintro ⟨⟨a, ⟨e, b⟩, c⟩, n⟩; exact ⟨⟨⟨a, c⟩, b⟩, .inl e⟩
     · rintro ⟨⟨⟨a, c⟩, b⟩, e⟩; exact ⟨⟨a, ⟨by omega, b⟩, c⟩, .inr h2⟩
theorem last_snoc (cs : List Co) (c : Co) : evLast (cs ++ [c]) = c.1 := by unfold evLast; simp
def evHad (a : List Co) (r : List Cl) (i : Nat) (id : Int) : Option Cl := match evAt (a.take i) id with
 | some k => some (r.getD k zCl)
 | none => none
theorem had_zero (a : List Co) (r : List Cl) (id : Int) : evHad a r 0 id = none := by unfold evHad; simp [evAt]
theorem had_step {a : List Co} (hu : IdsUp a) {r : List Cl} {i : Nat} {c : Co} (h : a[i]? = some c) (id : Int) : evHad a r (i + 1) id = if id = c.1 then some (r.getD i zCl) else evHad a r i id := by
 have hut : IdsUp (a.take (i + 1)) := fun j q x y hq hx hy => by
  rw [List.getElem?_take] at hx hy
  split at hx
  · split at hy
    · exact hu j q x y hq hx hy
    · cases hy
  · cases hx
 have hl := (List.getElem?_eq_some_iff.1 h).1
 have hat : (a.take (i + 1))[i]? = some c := by rw [List.getElem?_take, if_pos (by omega)]; exact h
 unfold evHad
 by_cases e : id = c.1
 · rw [if_pos e, e, evAt_of hut hat]
 · rw [if_neg e]
   have : evAt (a.take (i + 1)) id = evAt (a.take i) id := by
    rw [List.take_add_one, h]; unfold evAt; rw [List.findIdx?_append]
    have hn : ([c] : List Co).findIdx? (fun c => decide (c.1 = id)) = none := by
     rw [List.findIdx?_eq_none_iff]
     intro x hx
     obtain rfl := List.mem_singleton.1 hx
     simpa using fun e' => e e'.symm
    simp only [Option.toList_some, hn, Option.map_none, Option.or_none]
   rw [this]
theorem had_all {a : List Co} {r : List Cl} (id : Int) : evHad a r a.length id = match evAt a id with
    | some k => some (r.getD k zCl)
    | none => none := by unfold evHad; rw [List.take_length]
end Go.Ms
namespace Go.Ms
open Go.RowKit
variable {F : Fence} {n : Nat} {P : Program}
def Calm0 {β : Type} (base : Nat) (J : β → World → Prop) : Prop :=
  ∀ s A B row, J s A → A.grownBy B row → (∀ r, row = some r → base ≤ r ∧ ∃ o : Obj, A.heap[r]? = some o ∧ o.isCells = false) → J s B
def ReadSeq {α : Type} (F : Fence) (n : Nat) (P : Program) (g : Nat) (Bs : Nat) (encs : α → Array Value) (xs : List α) (R : World → Prop) : Prop :=
  ∀ (l : Nat) (J Jx : List α → World → Prop) (W : World), (∀ s A, J s A → R A) →
    (∀ s A B, J s A → A.grownBy B none → J s B) → (∀ s A B, Jx s A → A.grownBy B none → Jx s B) →
    (∀ pre x W1, J pre W1 → (pre ++ [x]) <+: xs → YieldAt F (n - 1) P l (encs x) W1 fun e W' =>
     (e = .returned (.bool true) ∧ J (pre ++ [x]) W') ∨ (e = .returned (.bool false) ∧ Jx (pre ++ [x]) W')) →
    J [] W →
    CallsIn F n P g #[.func (.yield l) #[] #[], .pointer (some ⟨Bs, 0, none⟩)] W fun e W' => (∃ v, e = .returned v) ∧ (J xs W' ∨ ∃ pre, Jx pre W')
def readPost {α : Type} (base : Nat) (I : List α → World → Prop) (Ix : Code → List α → World → Prop) (xs : List α) (W : World) : Exit → Act → World → Prop
  | .normal, _, W' => KeepsFrom base W W' ∧ I xs W'
  | .ret, _, W' => KeepsFrom base W W' ∧ Ix .ret xs W'
  | .exit id, _, W' => KeepsFrom base W W' ∧ Ix (.exit id) xs W'
  | .goto t, _, W' => KeepsFrom base W W' ∧ Ix (.goto t) xs W'
  | .panic _, _, _ => False
  | .outgrown, _, _ => False
theorem Calm0.turn {β : Type} {base : Nat} {J : β → World → Prop} (h : Calm0 base J) {s : β} {W : World} {l : Nat} {o : Obj} (o' : Obj) (hj : J s W) (hl : base ≤ l) (ho : W.heap[l]? = some o) (hc : o.isCells = false) : J s (W.putObj l o') :=
  h s _ _ (some l) hj (grownBy_putObj' W l o') (fun r e => by cases e; exact ⟨hl, o, ho, hc⟩)
theorem Calm0.new {β : Type} {base : Nat} {J : β → World → Prop} (h : Calm0 base J) {s : β} {W : World} (o : Obj) (hj : J s W) : J s (W.alloc o) :=
  h s _ _ none hj (World.grownBy_alloc W o none) (fun r e => by cases e)
end Go.Ms
namespace Go.Ms
open Go.RowKit
variable {F : Fence} {n : Nat} {P : Program}
theorem wpIn_rangeFunc_read2 {α : Type} {g : Operand} {ps : Array Tmp} {assign body : Code} {Q : Exit → Act → World → Prop} {a : Act} {w : World}
    (hro : F.round = none) (h1 : 1 ≤ n) {gf : Nat} {Bs : Nat} {R : World → Prop} (hg : a.eval g = .func (.func gf) #[] #[.pointer (some ⟨Bs, 0, none⟩)]) (hFg : F.fn gf) (eg : ∀ args w, (callFunc gf args).run P w = .ok (.enter gf args) w)
    {encs : α → Array Value} {xs : List α} (hseq : ReadSeq F (n - 1) P gf Bs encs xs R) (hps : ∀ x, (encs x).size = ps.size)
    (I : List α → World → Prop) (I1 : α → List α → World → Prop) (Ix : Code → List α → World → Prop) (hR : ∀ s A, I s A → R A) (hI : Calm0 w.heap.size I) (hIa : ∀ x, Calm0 w.heap.size (I1 x)) (hIx : ∀ c, Calm0 w.heap.size (Ix c)) (h0 : I [] w) (a₁ : α → Act)
    (hassign : ∀ (l : Nat) (pre : List α) (x : α) (W : World) (K : Act → World → Prop), (pre ++ [x]) <+: xs → I pre W → (∀ W', KeepsFrom w.heap.size W W' → I1 x pre W' → K (a₁ x) W') →
      assign.wpIn (F.inRound l) (n - 1 - 1) P (Exit.then K (fun _ _ _ => False)) { tmps := (ps.zip (encs x)).foldl (fun t (p, v) => t.setIfInBounds p v) a.tmps, defers := [] } W)
    (hbody : ∀ (l : Nat) (pre : List α) (x : α) (W : World), (pre ++ [x]) <+: xs → I1 x pre W → body.wpIn (F.inRound l) (n - 1 - 1) P (readPost w.heap.size I Ix (pre ++ [x]) W) (a₁ x) W)
    (hdone : ∀ (D : Nat) (W : World), w.heap.size ≤ D → I xs W → W.heap[D]? = some (.deferred (some [])) → Q .normal { a with defers := { target := .collected D, args := #[] } :: a.defers } W)
    (hstop : ∀ (D : Nat) (c : Code) (pre : List α) (W : World), w.heap.size ≤ D → Ix c pre W → W.heap[D]? = some (.deferred (some [])) → c.wpIn F n P Q { a with defers := { target := .collected D, args := #[] } :: a.defers } W) :
    (Code.rangeFunc g ps assign body).wpIn F n P Q a w := by
 refine wpIn_rangeFunc fun fn hfn => ?_
 rw [hro]
 obtain ⟨rec, hrec⟩ : ∃ rec : LoopState → Option Code → Loop, rec = fun st pe => { state := st, pending := pe, fn, tmps := a.tmps, params := ps, assign, body, defers := w.heap.size } := ⟨_, rfl⟩
 obtain ⟨W1, hW1⟩ : ∃ W1, (w.alloc (.deferred (some []))).alloc (.loop (rec .ready none)) = W1 := ⟨_, rfl⟩
 have hL1 : W1.heap[w.heap.size + 1]? = some (.loop (rec .ready none)) := by
  rw [← hW1]; have := World.alloc_heap_new (w.alloc (.deferred (some []))) (.loop (rec .ready none)); rwa [World.size_alloc] at this
 have hK1 : W1.heap[w.heap.size]? = some (.deferred (some [])) := by
  rw [← hW1]; exact (Below.heap_alloc _ _ _ (by simp)).trans (World.alloc_heap_new w _)
 have hI1 : I [] W1 := by rw [← hW1]; exact hI.new _ (hI.new _ h0)
 refine ⟨w.heap.size + 1, [{ target := .collected w.heap.size, args := #[] }], W1, { target := .fn (.func gf) #[.pointer (some ⟨Bs, 0, none⟩)], args := #[.func (.yield (w.heap.size + 1)) #[] #[]] }, W1, gf,
   #[.func (.yield (w.heap.size + 1)) #[] #[], .pointer (some ⟨Bs, 0, none⟩)], W1, ?_, ?_, ?_, ?_, fun _ => h1, ?_⟩
 · rw [← hW1, hrec]; exact run_enterLoop_outer _ _ _ _ _
 · simp only [resolve, hg]
   simp [go_sem]
 · intro f' hf'; simp [Target.leads] at hf'; subst hf'; exact hFg
 · simp [invoke, go_sem, eg]
 · have hkeep : ∀ {A B : World} {k : Nat} {o : Obj}, A.grownBy B none → A.heap[k]? = some o → B.heap[k]? = some o :=
     fun hg' ho => (hg'.block _ (Array.getElem?_eq_some_iff.1 ho).1 (by simp)).trans ho
   refine (hseq (w.heap.size + 1)
     (fun pre W => I pre W ∧ W.heap[w.heap.size + 1]? = some (.loop (rec .ready none)) ∧ W.heap[w.heap.size]? = some (.deferred (some [])))
     (fun pre W => ∃ c, Ix c pre W ∧ W.heap[w.heap.size + 1]? = some (.loop (rec .done (some c))) ∧ W.heap[w.heap.size]? = some (.deferred (some [])))
     W1 (fun s A hs => hR s A hs.1)
     (fun s A B hs hg' => ⟨hI s A B none hs.1 hg' (fun r e => by cases e), hkeep hg' hs.2.1, hkeep hg' hs.2.2⟩)
     (fun s A B hs hg' => by
      obtain ⟨c, hc, hl, hk⟩ := hs
      exact ⟨c, hIx c s A B none hc hg' (fun r e => by cases e), hkeep hg' hl, hkeep hg' hk⟩)
     ?_ ⟨hI1, hL1, hK1⟩).mono ?_
   · rintro pre x W ⟨hi, hl, hk⟩ hx; have hlt : w.heap.size + 1 < W.heap.size := (Array.getElem?_eq_some_iff.1 hl).1; have hy := run_yield (P := P) (args := encs x) hl (by rw [hrec]; exact hps x); rw [hrec] at hy; refine ⟨fn, _, assign, body, hy, roundIn_of_wpIn hfn (hassign _ pre x W _ hx hi fun V hkV hi1 => ?_)⟩; have hlV := hkV.same _ _ (by omega) hl rfl; have hkV2 := hkV.same _ _ le_ hk rfl; have hltV : w.heap.size + 1 < V.heap.size := (Array.getElem?_eq_some_iff.1 hlV).1; refine ⟨_, run_beginRound hlV (by rw [hrec]), ?_⟩
     have hl2 : (V.putObj (w.heap.size + 1) (.loop { rec .ready none with state := .busy })).heap[w.heap.size + 1]? = some (.loop { rec .ready none with state := .busy }) := World.putObj_heap_same hltV; have hk2 : (V.putObj (w.heap.size + 1) (.loop { rec .ready none with state := .busy })).heap[w.heap.size]? = some (.deferred (some [])) := (World.putObj_heap_other (by omega)).trans hkV2; refine wpIn_mono (hbody _ pre x _ hx ((hIa x).turn _ hi1 (by omega) hlV rfl)) ?_
     have fin : ∀ (jump : Option Code) (W3 : World), KeepsFrom w.heap.size (V.putObj (w.heap.size + 1) (.loop { rec .ready none with state := .busy })) W3 →
         (Instr.endRound (w.heap.size + 1) jump).run P W3 = .ok (.bool jump.isNone) (W3.putObj (w.heap.size + 1) (.loop (rec (if jump.isNone then .ready else .done) jump))) ∧
         W3.heap[w.heap.size + 1]? = some (.loop { rec .ready none with state := .busy }) ∧
         (W3.putObj (w.heap.size + 1) (.loop (rec (if jump.isNone then .ready else .done) jump))).heap[w.heap.size + 1]? = some (.loop (rec (if jump.isNone then .ready else .done) jump)) ∧
         (W3.putObj (w.heap.size + 1) (.loop (rec (if jump.isNone then .ready else .done) jump))).heap[w.heap.size]? = some (.deferred (some [])) := fun jump W3 hk3 => by
       have hl3 := hk3.same _ _ (by omega) hl2 rfl; have := run_endRound (P := P) jump hl3; rw [hrec] at this ⊢; exact ⟨this, by rw [hrec] at hl3; exact hl3, World.putObj_heap_same (Array.getElem?_eq_some_iff.1 hl3).1, (World.putObj_heap_other (by omega)).trans (hk3.same _ _ le_ hk2 rfl)⟩
     rintro e a3 W3 hp
     cases e with
     | normal =>
      obtain ⟨hk3, hi3⟩ := hp; obtain ⟨hr, hl3, hl4, hk4⟩ := fin none W3 hk3; exact ⟨_, _, hr, .inl ⟨rfl, hI.turn _ hi3 (by omega) hl3 rfl, hl4, hk4⟩⟩
     | ret =>
      obtain ⟨hk3, hi3⟩ := hp; obtain ⟨hr, hl3, hl4, hk4⟩ := fin (some .ret) W3 hk3; exact ⟨_, _, hr, .inr ⟨rfl, .ret, (hIx _).turn _ hi3 (by omega) hl3 rfl, hl4, hk4⟩⟩
     | exit id =>
      obtain ⟨hk3, hi3⟩ := hp; obtain ⟨hr, hl3, hl4, hk4⟩ := fin (some (.exit id)) W3 hk3; exact ⟨_, _, hr, .inr ⟨rfl, .exit id, (hIx _).turn _ hi3 (by omega) hl3 rfl, hl4, hk4⟩⟩
     | goto t =>
      obtain ⟨hk3, hi3⟩ := hp; obtain ⟨hr, hl3, hl4, hk4⟩ := fin (some (.goto t)) W3 hk3; exact ⟨_, _, hr, .inr ⟨rfl, .goto t, (hIx _).turn _ hi3 (by omega) hl3 rfl, hl4, hk4⟩⟩
     | panic ch => exact hp.elim
     | outgrown => exact hp.elim
   · rintro e W2 ⟨⟨v, rfl⟩, (⟨hi, hl, hk⟩ | ⟨pre, c, hi, hl, hk⟩)⟩
     · exact ⟨none, _, by have := run_endLoop (P := P) hl (by rw [hrec]; simp); rw [hrec] at this; exact this, hdone _ _ le_ (hI.turn _ hi (by omega) hl rfl) ((World.putObj_heap_other (by omega)).trans hk)⟩
     · exact ⟨some c, _, by have := run_endLoop (P := P) hl (by rw [hrec]; simp); rw [hrec] at this; exact this, hstop _ c pre _ le_ ((hIx c).turn _ hi (by omega) hl rfl) ((World.putObj_heap_other (by omega)).trans hk)⟩
end Go.Ms
