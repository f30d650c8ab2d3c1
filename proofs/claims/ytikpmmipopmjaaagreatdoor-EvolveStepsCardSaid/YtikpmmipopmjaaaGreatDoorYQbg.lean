/- Schemas: the examples, walked. Schemas that follow each other, plainly (closed): the texts of the examples, read; what the examples answer. Rows: places held against a number; the cells at places. Rows: a cell's bits are not many; no more are taken off than there are. Rows: keys put together. Evolve's laws: a schema read of a text. The reference of evolve: may a column follow one of the same id? The reference of evolve: the greatest id. Schemas: Place and Named, as the reference answers. -/
import Derived.Test.YtikpmmipopmjaaaGreatDoorYQbf
import Derived.Test.YtikpmmipopmjaaaGreatDoorYS6
set_option maxRecDepth 100000
set_option linter.unusedVariables false
set_option linter.unusedSimpArgs false
namespace Go.Proofs.YtikpmmipopmjaaaGreatDoor
open Go.RowKit Go.Ms Go.Lib
theorem parse_is {S : ByteArray} {w : World} {D : List Co × List Int × Nat × Int} (hs : S.size ≤ 20000) (hE : Env w) (h : parseD S.data.toList = D) {n m : Nat} {l : Int} (hn : D.1.length = n) (hm : D.2.1.length = m) (hl : ((D.2.2.1 : Nat) : Int) = l) :
    Calls Tryz.prog 55 #[.string S] w fun e w' => ∃ (A B : Option Addr) (c d : Nat), e = .returned (.tuple #[.agg #[.slice A n c, .slice B m d], .int .i64 l, .int .i64 D.2.2.2]) ∧ Lay w' w'.heap.size A (colV D.1) ∧ Lay w' w'.heap.size B (intV D.2.1) ∧ Below w.heap.size w w' := by
 subst h hn hm hl; exact scparse_any S w hs hE
end Go.Proofs.YtikpmmipopmjaaaGreatDoor
namespace Go.Ms
open Go.RowKit Go.Lib
def eW0 : Sc := ([(1, ⟨#[105, 100]⟩, (2, false), (false, 0, ⟨#[]⟩)), (2, ⟨#[115]⟩, (4, false), (false, 0, ⟨#[100]⟩))], [0])
theorem pd_eW0 : parseD [49, 32, 105, 100, 32, 105, 110, 116, 51, 50, 42, 32, 48, 10, 50, 32, 115, 32, 115, 116, 114, 105, 110, 103, 32, 34, 100, 34, 10] = (eW0.1, eW0.2, 0, 0) := by kernel_rfl
def eW1 : Sc := ([(1, ⟨#[105, 100]⟩, (3, false), (false, 0, ⟨#[]⟩)), (4, ⟨#[110]⟩, (3, true), (true, 0, ⟨#[]⟩))], [0])
theorem pd_eW1 : parseD [49, 32, 105, 100, 32, 105, 110, 116, 54, 52, 42, 32, 48, 10, 52, 32, 110, 32, 105, 110, 116, 54, 52, 63, 32, 110, 117, 108, 108, 10] = (eW1.1, eW1.2, 0, 0) := by kernel_rfl
def eW2 : Sc := ([(1, ⟨#[105, 100]⟩, (2, false), (false, 0, ⟨#[]⟩))], [0])
theorem pd_eW2 : parseD [49, 32, 105, 100, 32, 105, 110, 116, 51, 50, 42, 32, 48, 10] = (eW2.1, eW2.2, 0, 0) := by kernel_rfl
def eW3 : Sc := ([(2, ⟨#[115]⟩, (4, false), (false, 0, ⟨#[100]⟩))], [])
theorem pd_eW3 : parseD [50, 32, 115, 32, 115, 116, 114, 105, 110, 103, 32, 34, 100, 34, 10] = (eW3.1, eW3.2, 0, 0) := by kernel_rfl
def eW4 : Sc := ([(1, ⟨#[105, 100]⟩, (2, false), (false, 0, ⟨#[]⟩)), (2, ⟨#[116]⟩, (4, false), (false, 0, ⟨#[100]⟩))], [0])
theorem pd_eW4 : parseD [49, 32, 105, 100, 32, 105, 110, 116, 51, 50, 42, 32, 48, 10, 50, 32, 116, 32, 115, 116, 114, 105, 110, 103, 32, 34, 100, 34, 10] = (eW4.1, eW4.2, 0, 0) := by kernel_rfl
def eW5 : Sc := ([(1, ⟨#[105, 100]⟩, (2, false), (false, 0, ⟨#[]⟩)), (2, ⟨#[115]⟩, (4, true), (false, 0, ⟨#[100]⟩))], [0])
theorem pd_eW5 : parseD [49, 32, 105, 100, 32, 105, 110, 116, 51, 50, 42, 32, 48, 10, 50, 32, 115, 32, 115, 116, 114, 105, 110, 103, 63, 32, 34, 100, 34, 10] = (eW5.1, eW5.2, 0, 0) := by kernel_rfl
def eW6 : Sc := ([(1, ⟨#[105, 100]⟩, (2, false), (false, 0, ⟨#[]⟩)), (2, ⟨#[115]⟩, (4, false), (false, 0, ⟨#[101]⟩))], [0])
theorem pd_eW6 : parseD [49, 32, 105, 100, 32, 105, 110, 116, 51, 50, 42, 32, 48, 10, 50, 32, 115, 32, 115, 116, 114, 105, 110, 103, 32, 34, 101, 34, 10] = (eW6.1, eW6.2, 0, 0) := by kernel_rfl
def eW7 : Sc := ([(2, ⟨#[115]⟩, (4, false), (false, 0, ⟨#[]⟩))], [0])
theorem pd_eW7 : parseD [50, 32, 115, 32, 115, 116, 114, 105, 110, 103, 42, 32, 34, 34, 10] = (eW7.1, eW7.2, 0, 0) := by kernel_rfl
def eW8 : Sc := ([(1, ⟨#[97]⟩, (1, false), (false, 0, ⟨#[]⟩)), (2, ⟨#[115]⟩, (4, false), (false, 0, ⟨#[]⟩))], [1])
theorem pd_eW8 : parseD [49, 32, 97, 32, 98, 111, 111, 108, 32, 102, 97, 108, 115, 101, 10, 50, 32, 115, 32, 115, 116, 114, 105, 110, 103, 42, 32, 34, 34, 10] = (eW8.1, eW8.2, 0, 0) := by kernel_rfl
def eWbad : Sc := (eW2.1 ++ eW2.1, [0])
def eWr : List Cl := [(false, 5, ⟨#[]⟩), (false, 0, ⟨#[120]⟩)]
def eWy : List Cl := [(false, 5, ⟨#[]⟩), (true, 0, ⟨#[]⟩)]
theorem ew_0 : evMove eW0 eW0 eWr = (eWr, 0) := by kernel_rfl
theorem ew_1 : evMove eW0 eW1 eWr = (eWy, 0) := by kernel_rfl
theorem ew_2 : evMove eW0 eW1 (eWr.take 1) = ([], 100) := by kernel_rfl
theorem ew_3 : evCarry [eW0, eW2, eW1] 1 3 eWr = (eWy, 0) := by kernel_rfl
theorem ew_4 : evCarry [eW0, eW2, eW1] 2 1 eWr = ([], 131) := by kernel_rfl
theorem ew_5 : evStep eW0 eWbad = 2 := by kernel_rfl
theorem ew_6 : evStep eW0 eW3 = 120 := by kernel_rfl
theorem ew_7 : evStep eW0 eW4 = 120 := by kernel_rfl
theorem ew_8 : evStep eW0 eW5 = 120 := by kernel_rfl
theorem ew_9 : evStep eW0 eW6 = 120 := by kernel_rfl
theorem ew_10 : evStep eW7 eW8 = 120 := by kernel_rfl
theorem ew_11 : evStep eW2 eW0 = 0 := by kernel_rfl
theorem ew_12 : evChain [eW0, eW2, eW0] = 120 := by kernel_rfl
theorem ew_13 : evChain [] = 0 := by kernel_rfl
end Go.Ms
namespace Go.Ms
end Go.Ms
namespace Go.Proofs.YtikpmmipopmjaaaGreatDoor
open Go.RowKit Go.Ms Go.Lib
end Go.Proofs.YtikpmmipopmjaaaGreatDoor
namespace Go.Proofs.YtikpmmipopmjaaaGreatDoor
open Go.Ms
end Go.Proofs.YtikpmmipopmjaaaGreatDoor
namespace Go.Ms
end Go.Ms
namespace Go.Proofs.YtikpmmipopmjaaaGreatDoor
open Go.RowKit Go.Ms Go.Lib
end Go.Proofs.YtikpmmipopmjaaaGreatDoor
namespace Go.Ms
open Go.RowKit Go.Lib
theorem Lay.off {W : World} {B : Nat} {A : Option Addr} {xs : List Value} (h : Lay W B A xs) {b i : Nat} {a1 a2 : Option Addr} {n1 c1 n2 c2 : Nat} {T : TypeId} (hb : W.heap[b]? = some (.cells #[.slice a1 n1 c1, .slice a2 n2 c2] T (0, 0))) (hx : ∀ x ∈ xs, ∀ a n c, x ≠ .slice a n c) (y : Value) : Lay (W.setCell ⟨b, i, none⟩ y) B A xs := by
 intro j u hu
 obtain ⟨g, o, e, hlt, hc⟩ := h j u hu; refine ⟨g, o, e, hlt, ?_⟩
 have hne : g ≠ b := by
  rintro rfl
  simp [World.cell?, hb] at hc
  have hm := List.mem_of_getElem? hu
  rcases hoj : o + j with _ | _ | k
  · rw [hoj] at hc; simp at hc; exact hx u hm _ _ _ hc.symm
  · rw [hoj] at hc; simp at hc; exact hx u hm _ _ _ hc.symm
  · rw [hoj] at hc; simp at hc
 have hk : (W.setCell ⟨b, i, none⟩ y).heap[g]? = W.heap[g]? := Below.heap_setCell W ⟨b, i, none⟩ y g hne; unfold World.cell? at hc ⊢; simp only at hc ⊢; rw [hk]; exact hc
theorem colV_noslice (l : List Co) : ∀ x ∈ colV l, ∀ a n c, x ≠ .slice a n c := by
 intro x hx a n c e
 obtain ⟨d, _, hd⟩ := List.mem_flatMap.1 hx; subst e
 simp [coV] at hd
theorem intV_noslice (l : List Int) : ∀ x ∈ intV l, ∀ a n c, x ≠ .slice a n c := by
 intro x hx a n c e
 obtain ⟨d, _, hd⟩ := List.mem_map.1 hx; subst e
 cases hd
end Go.Ms
namespace Go.Proofs.YtikpmmipopmjaaaGreatDoor
open Go.RowKit Go.Ms Go.Lib Go.Shelf Go.Rel
theorem two_own {w : World} {b : Nat} {x y : Value} {T : TypeId} (h : w.heap[b]? = some (.cells #[x, y] T (0, 0))) (u v : Value) : ((w.setCell ⟨b, 0, none⟩ u).setCell ⟨b, 1, none⟩ v).heap[b]? = some (.cells #[u, v] T (0, 0)) := two_set1 (two_set0 h u) v
set_option maxHeartbeats 1000000 in
theorem read12_any {S : ByteArray} {s : Sc} (hs : S.size ≤ 1000) (h1 : s.1.length ≤ 100000) (h2 : s.2.length ≤ 100000) (hr : (Lib.replaceAll S.data.toList [47] [10]).length ≤ 20000) (hp : parseD (Lib.replaceAll S.data.toList [47] [10]) = (s.1, s.2, 0, 0)) (w : World) (hE : Env w) :
    Calls Tryz.prog 31 #[.string S] w fun e w' => ∃ r : SRef, e = .returned (.agg #[.slice r.a r.n r.c, .slice r.b r.m r.d]) ∧ r.n = s.1.length ∧ r.m = s.2.length ∧ ScLay w' w'.heap.size r s ∧ Below w.heap.size w w' := by
 obtain ⟨X, hX⟩ : ∃ X, X = w.alloc (.cells #[.slice none 0 0, .slice none 0 0] 25) := ⟨_, rfl⟩
 have bX : Below w.heap.size w X := by rw [hX]; exact (Below.refl _ w).alloc le_ _
 have qX : X.heap[w.heap.size]? = some (.cells #[.slice none 0 0, .slice none 0 0] 25 (0, 0)) := by rw [hX]; exact block_new _ _
 obtain ⟨m, hm⟩ := (hE.below bX).maxl; have hcb := Lib.countB_le ⟨#[47]⟩ (by decide) S.size S le_
 have cr := Tryz.strings_ReplaceAll S ⟨#[47]⟩ ⟨#[10]⟩ m X (by omega) hm (by decide) (by
   have h2 : (⟨#[10]⟩ : ByteArray).size = 1 := rfl
   rw [h2]; omega)
 rw [show (⟨#[47]⟩ : ByteArray).data.toList = [47] from rfl, show (⟨#[10]⟩ : ByteArray).data.toList = [10] from rfl] at cr
 generalize Lib.replaceAll S.data.toList [47] [10] = L at cr hr hp
 have hpar := fun (W : World) (hb : Below X.heap.size X W) => parse_is (S := ⟨L.toArray⟩) (w := W) (D := (s.1, s.2, 0, 0)) (by show L.toArray.size ≤ 20000; rw [List.size_toArray]; omega) ((hE.below bX).below hb) hp rfl rfl rfl
 have HR := hh_ cr; have HP := hh_ hpar; have BX := hh_ bX; have QX := hh_ qX
 clear cr hpar bX qX hm hcb hE hp
 go_enter Tryz.func31, Tryz.ntmps31
 go_wp2_with fail
 rw [← hX]; clear hX; refine HR.out.mono ?_; rintro en w1 ⟨rfl, b1⟩
 have B1 := hh_ (BX.out.trans (b1.mono BX.out.size)); have Q1 := hh_ (bk_ QX.out b1); have HP1 := hh_ (HP.out w1 b1)
 clear b1
 go_wp2_with fail
 refine HP1.out.mono ?_; rintro en w2 ⟨A, B, c, d, rfl, l1, l2, b2⟩; have q2 := bk_ Q1.out b2; have q3 := bx_ q2 (.cells #[.slice A s.1.length c, .slice B s.2.length d] 25); have f0 := fz_ 0 q3; have f1 := fz_ 1 q3; have y0 := cb_ 0 q3 rfl; have y1 := cb_ 1 q3 rfl
 have Q3 := hh_ q3; have B2 := hh_ (B1.out.trans (b2.mono B1.out.size)); have L1 := hh_ l1; have L2 := hh_ l2
 clear b2 q2 q3 l1 l2
 go_wp2_with fail
 have B3 := B2.out.alloc B2.out.size (.cells #[.slice A s.1.length c, .slice B s.2.length d] 25); have bl := (Below.refl w2.heap.size w2).alloc le_ (.cells #[.slice A s.1.length c, .slice B s.2.length d] 25); have hq4 := two_own Q3.out (.slice A s.1.length c) (.slice B s.2.length d); refine bodyPost_ret (results_cell_row (P := Tryz.prog) rfl _ _ w.heap.size 25 _ (0, 0) _ rfl hq4 Tryz.underlying25 rfl (by kernel_rfl)) rfl ?_; have q5 := Go.Ms.two_set0 Q3.out (.slice A s.1.length c)
 refine ⟨⟨A, s.1.length, c, B, s.2.length, d⟩, rfl, rfl, rfl, ⟨rfl, rfl, h1, h2, ?_, ?_⟩, (B3.setCell (p := ⟨w.heap.size, 0, none⟩) le_ _).setCell (p := ⟨w.heap.size, 1, none⟩) le_ _⟩
 · simp only [World.size_setCell]; exact (((L1.out.below bl).more bl.size).off Q3.out (colV_noslice _) _).off q5 (colV_noslice _) _
 · simp only [World.size_setCell]; exact (((L2.out.below bl).more bl.size).off Q3.out (intV_noslice _) _).off q5 (intV_noslice _) _
end Go.Proofs.YtikpmmipopmjaaaGreatDoor
namespace Go.Proofs.YtikpmmipopmjaaaGreatDoor
open Go.RowKit Go.Ms Go.Lib
set_option maxHeartbeats 4000000 in
theorem rsame_any (c d : Co) (w : World) : Calls Tryz.prog 80 #[coA c, coA d] w fun e w' => e = .returned (.bool (evSame c d)) ∧ Below w.heap.size w w' := by
 obtain ⟨i0, s0, ⟨k0, u0⟩, n0, m0, t0⟩ := c; obtain ⟨i1, s1, ⟨k1, u1⟩, n1, m1, t1⟩ := d; have bb := ((Below.refl _ w).alloc le_ (.cells #[.int .i64 i0, .string s0, .int .i64 k0, .bool u0, .bool n0, .int .i64 m0, .string t0] 59)).alloc (by rw [World.size_alloc]; omega) (.cells #[.int .i64 i1, .string s1, .int .i64 k1, .bool u1, .bool n1, .int .i64 m1, .string t1] 59); have BB := hh_ bb; clear bb
 show Calls Tryz.prog 80 #[.agg #[.int .i64 i0, .string s0, .int .i64 k0, .bool u0, .bool n0, .int .i64 m0, .string t0], .agg #[.int .i64 i1, .string s1, .int .i64 k1, .bool u1, .bool n1, .int .i64 m1, .string t1]] w _
 have q : ∀ S T : ByteArray, S.toList = T.toList ↔ S = T := fun S T => by
  rw [Lib.toList_data, Lib.toList_data]; exact ⟨fun h => by rw [ba_ext (s := S) rfl, ba_ext (s := T) rfl, h], fun h => by rw [h]⟩
 have Q := hh_ q; clear q
 go_enter Tryz.func80, Tryz.ntmps80
 go_wp2_with fail
 all_goals
  go_ret
  have q := Q.out; refine ⟨?_, by first | exact BB.out | (have h := BB.out; simp_all)⟩; clear BB Q
  congr 2
  unfold evSame
  first
    | (simp_all; done)
    | (by_cases h3 : k1 = 3 <;> by_cases h2 : 2 = k1 <;> simp_all)
end Go.Proofs.YtikpmmipopmjaaaGreatDoor
namespace Go.Proofs.YtikpmmipopmjaaaGreatDoor
open Go.RowKit Go.Ms Go.Lib
set_option maxHeartbeats 4000000 in
theorem rgreatest_any (A B : Option Addr) (n cap m capm : Nat) (cs : List Co) (w : World) (hn : n = cs.length) (hn' : n ≤ 100000) (h0 : 0 < n) (hA : Lay w w.heap.size A (colV cs)) :
    Calls Tryz.prog 45 #[.agg #[.slice A n cap, .slice B m capm]] w fun e w' => e = .returned (.int .i64 (evLast cs)) ∧ Below w.heap.size w w' := by
 obtain ⟨⟨i1, s1, ⟨k1, u1⟩, n1, m1, t1⟩, hc⟩ : ∃ c, cs[n - 1]? = some c := ⟨_, List.getElem?_eq_getElem (by omega)⟩
 have hl : evLast cs = i1 := by
  unfold evLast; rw [List.getLast?_eq_getElem?, ← hn, hc]; rfl
 obtain ⟨g, o, rfl, hg⟩ := hA.colAt hc; have bX := (Below.refl w.heap.size w).alloc le_ (.cells #[.slice (some ⟨g, o, none⟩) n cap, .slice B m capm] 25); have hx := (hg.below bX).c0; have hw := iw_ ((n : Int) - 1) (by omega)
 have i1' : (0 : Int) ≤ (n : Int) - 1 := by omega
 have i2' : (n : Int) - 1 < n := by omega
 have i3' : (1 : Int) ≤ n := by omega
 have BX := hh_ bX; have HL := hh_ hl
 clear bX hl hc hg hA hn
 go_enter Tryz.func45, Tryz.ntmps45
 go_wp2_with fail
 go_ret
 exact ⟨congrArg (fun i => Ending.returned (.int .i64 i)) HL.out.symm, BX.out⟩
end Go.Proofs.YtikpmmipopmjaaaGreatDoor
namespace Go.Proofs.YtikpmmipopmjaaaGreatDoor
open Go.RowKit Go.Ms Go.Lib
set_option maxHeartbeats 2000000 in
theorem rplace_any (w : World) (A B : Option Addr) (n cap m capm : Nat) (cs : List Co) (v : Int) (hn' : n ≤ maxLen) (hn : n = cs.length) (hA : Lay w w.heap.size A (colV cs)) :
    Calls Tryz.prog 74 #[.agg #[.slice A n cap, .slice B m capm], .int .i64 v] w fun e w' => e = .returned (.tuple #[.int .i64 (coFind (fun c => decide (c.1 = v)) cs).1, .bool (coFind (fun c => decide (c.1 = v)) cs).2]) ∧ Below w.heap.size w w' := by
 unfold maxLen at hn'; obtain ⟨X, hX⟩ : ∃ X, X = w.alloc (.cells #[.slice A n cap, .slice B m capm] 25) := ⟨_, rfl⟩
 have bX : Below w.heap.size w X := by rw [hX]; exact (Below.refl _ w).alloc le_ _
 have qX : X.heap[w.heap.size]? = some (.cells #[.slice A n cap, .slice B m capm] 25 (0, 0)) := by rw [hX]; exact block_new _ _
 have lA : Lay X X.heap.size A (colV cs) := (hA.below bX).more bX.size
 have HA := hh_ lA; have HN := hh_ hn; have BX := hh_ bX; have QX := hh_ qX
 clear hA hn bX qX lA
 go_enter Tryz.func74, Tryz.ntmps74
 go_wp2_with fail
 rw [← hX]; clear hX
 go_loopw [6] (fun id wr => ∃ k : Nat, k ≤ n ∧ id = .int .i64 k ∧ Below X.heap.size X wr ∧ ∀ (j : Nat) x, j < k → cs[j]? = some x → (fun c => decide (c.1 = v)) x = false) (fun id _ => n - (RowKit.intOf id).toNat)
 case atStart => exact ⟨0, by omega, rfl, Below.refl _ _, fun j c h => absurd h (by omega)⟩
 case round =>
  obtain ⟨k, hk, rfl, hb, hp⟩ := hrel; have HP := hh_ hp; have q0 := cb_ 0 (bk_ QX.out hb) rfl; clear hp
  by_cases hlk : k < n
  · have hki : (k : Int) < n := by omega
    obtain ⟨x, hx⟩ : ∃ x, cs[k]? = some x := ⟨_, List.getElem?_eq_getElem (by rw [← HN.out]; omega)⟩; obtain ⟨i0, s0, ⟨k0, u0⟩, n0, m0, t0⟩ := x; obtain ⟨g, o, rfl, hg, h1, h2, h3, h4, h5, h6, h7⟩ := HA.out.co hx; have g1 := (hb.cell hg).trans h1; have g2 := (hb.cell hg).trans h2; simp only at g1 g2
    have HX := hh_ hx; have HB := hh_ hb
    clear hx hb h1 h2 h3 h4 h5 h6 h7; have _ := True.intro
    by_cases hpx : i0 = v
    · have HR := hh_ (coFind_at (p := (fun c => decide (c.1 = v))) HX.out HP.out (decide_eq_true hpx))
      have e1 : (i0 == v) = true := by simpa using hpx
      clear hpx
      go_wp2_with fail
      all_goals (try go_quiet (fail))
      all_goals (go_wp2_with fail)
      all_goals go_ret2
      all_goals exact ⟨by rw [HR.out]; rfl, BX.out.trans ((ms_drewN HB.out 0).mono BX.out.size)⟩
    · have HPX := hh_ (decide_eq_false hpx)
      have e1 : (i0 == v) = false := by simpa using hpx
      clear hpx
      go_wp2_with fail
      all_goals (try go_quiet (fail))
      all_goals (go_wp2_with fail)
      go_roundw
      case rel =>
       refine ⟨k + 1, by omega, by go_num, ms_drewN HB.out 0, fun j y hj hy => ?_⟩
       by_cases e : j = k
       · subst e; rw [HX.out] at hy
         cases hy
         exact HPX.out
       · exact HP.out j y (by omega) hy
      case measure => simp [RowKit.intOf]; omega
  · have hki : ¬ (k : Int) < n := by omega
    have HR := hh_ (coFind_none (p := (fun c => decide (c.1 = v))) (l := cs) (fun j x hx => HP.out j x (by have := (List.getElem?_eq_some_iff.1 hx).1; have := HN.out; omega) hx)); have HB := hh_ hb; clear hb
    go_wp2_with fail
    go_ret2
    exact ⟨by rw [HR.out]; rfl, BX.out.trans (HB.out.mono BX.out.size)⟩
end Go.Proofs.YtikpmmipopmjaaaGreatDoor
