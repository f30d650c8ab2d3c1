/- Schemas: a text beyond the limit is none. Schemas, plainly: the closed schemas of SchemaKnown. Schemas: columns put together, one behind the other. -/
import Derived.Test.YtlncgoojolaibaaGreatDoorZWa
import Derived.Shelf.Strings.Repeat
set_option maxRecDepth 100000
set_option linter.unusedVariables false
set_option linter.unusedSimpArgs false
namespace Go.Proofs.YtlncgoojolaibaaGreatDoor
open Go.RowKit Go.Ms Go.Lib
theorem scparse_long (S : ByteArray) (w : World) (h : 1048576 < S.size) (hs : S.size ≤ 9000000) :
    Calls Tryz.prog 18 #[.string S] w fun e w' => e = .returned (.tuple #[.agg #[.slice none 0 0, .slice none 0 0], .int .i64 0, .int .i64 5]) ∧ Below w.heap.size w w' := by
 have hz : (1048576 : Int) < S.size := by omega
 have hz2 : decide ((1048576 : Int) < S.size) = true := by simp; omega
 go_enter Tryz.func18, Tryz.ntmps18
 have e0 : ((((w.alloc (.cells #[.slice none 0 0, .slice none 0 0] 28)).alloc (.cells #[.int .i64 0] 3)).alloc (.cells #[.int .i64 5] 43)).heap[w.heap.size]?) = some (.cells #[.slice none 0 0, .slice none 0 0] 28 (0, 0)) := bx_ (bx_ (block_new _ _) _) _; have e1 := bx_ (block_new (w.alloc (.cells #[.slice none 0 0, .slice none 0 0] 28)) (.cells #[.int .i64 0] 3)) (.cells #[.int .i64 5] 43); have e2 := block_new ((w.alloc (.cells #[.slice none 0 0, .slice none 0 0] 28)).alloc (.cells #[.int .i64 0] 3)) (.cells #[.int .i64 5] 43); simp only [World.size_alloc] at e1 e2; have c0 := cb_ 0 e0 rfl
 have c1 := cb_ 1 e0 rfl; have c2 := cb_ 0 e1 rfl; have c3 := cb_ 0 e2 rfl
 have C0 := hh_ c0; have C1 := hh_ c1; have C2 := hh_ c2; have C3 := hh_ c3
 clear c0 c1 c2 c3 e0 e1 e2
 go_wp2_with fail
 have c0 := C0.out; have c1 := C1.out; have c2 := C2.out; have c3 := C3.out; refine bodyPost_ret (v := .tuple #[.agg #[.slice none 0 0, .slice none 0 0], .int .i64 0, .int .i64 5]) (by simp [results, Tryz.results18, go_sem, c0, c1, c2, c3]) rfl ⟨rfl, ?_⟩; exact (((Below.refl _ w).alloc le_ _).alloc (by simp only [World.size_alloc]; omega) _).alloc (by simp only [World.size_alloc]; omega) _
end Go.Proofs.YtlncgoojolaibaaGreatDoor
namespace Go.Ms
open Go.RowKit Go.Lib
abbrev kDig : ByteArray := ⟨#[48, 49, 50, 51, 52, 53, 54, 55, 56, 57]⟩
def kCo (i : Nat) : Co := (1048544 + (i : Int), (⟨#[97]⟩ ++ kDig.extract (i / 10) (i / 10 + 1)) ++ kDig.extract (i % 10) (i % 10 + 1), (1, false), (false, 0, ⟨#[]⟩))
def kCs (n : Nat) : List Co := (List.range n).map kCo
theorem kCs_succ (n : Nat) : kCs (n + 1) = kCs n ++ [kCo n] := by unfold kCs; rw [List.range_succ, List.map_append]; rfl
theorem kCs_len (n : Nat) : (kCs n).length = n := by unfold kCs; simp
def kWk : List Int := [0, 1, 2, 3, 4, 5, 6, 31]
def kKk : List Int := [0, 1, 2, 3, 4, 5, 6, 7, 8]
theorem kWide_ok : scOk (kCs 32) kWk = true := by kernel_rfl
theorem kText_len : (scText (kCs 32) kWk).length ≤ 2000 := of_decide_eq_true (by kernel_rfl)
theorem kLong_bad : parseD (scText (kCs 32) kWk ++ [49, 48, 52, 56, 53, 55, 54, 32, 98, 32, 98, 111, 111, 108, 32, 102, 97, 108, 115, 101, 10]) = ([], [], 0, 2) := by kernel_rfl
def kFl (n : Nat) : Co := (1, ⟨#[97]⟩, (4, false), (false, 0, ⟨(repeatL [120] n).toArray⟩))
theorem kS_bad : ¬ ScOk (kCs 33) [] := fun h => by have := h.most; rw [kCs_len] at this; omega
theorem kKeys_bad : ¬ ScOk (kCs 32) kKk := fun h => by have := h.keys; simp [kKk] at this
theorem kFull_ok : scOk [kFl 1024] [] = true := by kernel_rfl
theorem kOver_bad : scOk [kFl 1025] [] = false := by kernel_rfl
theorem kCo_size (i : Nat) : (kCo i).2.1.size ≤ 21 := by
 unfold kCo; simp only [ByteArray.size_append, ByteArray.size_extract]; have h1 : (ByteArray.mk #[97]).size = 1 := rfl; have h2 : kDig.size = 10 := rfl; omega
theorem kCs_mem {n : Nat} {c : Co} (h : c ∈ kCs n) : ∃ i, i < n ∧ c = kCo i := by
 unfold kCs at h; obtain ⟨i, hi, rfl⟩ := List.mem_map.1 h; exact ⟨i, List.mem_range.1 hi, rfl⟩
theorem kCs_sizes (n : Nat) : ∀ c ∈ kCs n, c.2.1.size ≤ 100000 ∧ c.2.2.2.2.2.size ≤ 100000 := fun c hc => by
 obtain ⟨i, _, rfl⟩ := kCs_mem hc; have := kCo_size i; exact ⟨by omega, by show (ByteArray.mk #[]).size ≤ 100000; decide⟩
theorem kCs_in {n : Nat} (hn : n ≤ 40) : ∀ c ∈ kCs n, ColIn c := fun c hc => by
 obtain ⟨i, hi, rfl⟩ := kCs_mem hc; have := kCo_size i; unfold ColIn ClIn I64 maxLen; refine ⟨?_, by omega, ?_, ?_, ?_⟩
 · show _ ≤ 1048544 + (i : Int) ∧ 1048544 + (i : Int) ≤ _
   omega
 · show _ ≤ (1 : Int) ∧ (1 : Int) ≤ _
   omega
 · show (ByteArray.mk #[]).size ≤ _
   decide
 · show _ ≤ (0 : Int) ∧ (0 : Int) ≤ _
   omega
theorem kFl_size (n : Nat) : (kFl n).2.2.2.2.2.size = n := by
 show (repeatL [120] n).toArray.size = n
 rw [List.size_toArray, repeatL_length]; simp
theorem kFl_sizes {n : Nat} (hn : n ≤ 100000) : ∀ c ∈ [kFl n], c.2.1.size ≤ 100000 ∧ c.2.2.2.2.2.size ≤ 100000 := fun c hc => by
 obtain rfl : c = kFl n := by simpa using hc
 exact ⟨by show (ByteArray.mk #[97]).size ≤ 100000; decide, by rw [kFl_size]; exact hn⟩
theorem kFl_in {n : Nat} (hn : n ≤ 100000) : ∀ c ∈ [kFl n], ColIn c := fun c hc => by
 obtain rfl : c = kFl n := by simpa using hc
 have := kFl_size n; unfold ColIn ClIn I64 maxLen; refine ⟨?_, ?_, ?_, by omega, ?_⟩
 · show _ ≤ (1 : Int) ∧ (1 : Int) ≤ _
   omega
 · show (ByteArray.mk #[97]).size ≤ _
   decide
 · show _ ≤ (4 : Int) ∧ (4 : Int) ≤ _
   omega
 · show _ ≤ (0 : Int) ∧ (0 : Int) ≤ _
   omega
end Go.Ms
namespace Go.Ms
open Go.RowKit Go.Lib
theorem kcoV_one (c : Co) : ∀ u ∈ coV c, u.oneCell' = true := fun u hu => colV_one [c] u (by simpa [colV] using hu)
theorem kwp_inblock {P : Program} {c : Code} {K : Act → World → Prop} {Q' : Exit → Act → World → Prop} {id : Nat} {a : Act} {w : World} (h : c.wp P (Exit.then K (Exit.inBlock id (Exit.then K Q'))) a w) : c.wp P (Exit.inBlock id (Exit.then K Q')) a w :=
  Code.wp_mono (fun e a w h => by cases e <;> exact h) h
structure KlSt (tS tC tI : TypeId) (w : World) (v1 v2 : Value) (cs : List Co) (ks : List Int) (wr : World) : Prop where
  b : wr.heap[w.heap.size]? = some (.cells #[v1, v2] tS (0, 0))
  o1 : OwnCo wr (w.heap.size + 1) tC v1 cs
  o2 : OwnI wr (w.heap.size + 1) tI v2 ks
  bel : Below w.heap.size w wr
  hi : w.heap.size + 1 ≤ wr.heap.size
section
variable {tS tC tI : TypeId} {w : World} {v1 v2 : Value} {cs : List Co} {ks : List Int} {wr : World}
theorem KlSt.new (w : World) : KlSt tS tC tI w (.slice none 0 0) (.slice none 0 0) [] [] (w.alloc (.cells #[.slice none 0 0, .slice none 0 0] tS)) :=
  ⟨block_new _ _, World.ownsRow_nil _ _ _ _, World.ownsRow_nil _ _ _ _, (Below.refl _ w).alloc le_ _, by rw [World.size_alloc]; exact Nat.le_refl _⟩
theorem KlSt.step {w' : World} (h : KlSt tS tC tI w v1 v2 cs ks wr) (hb : Below wr.heap.size wr w') : KlSt tS tC tI w v1 v2 cs ks w' :=
  ⟨bk_ h.b hb, own_below h.o1 hb, own_below h.o2 hb, h.bel.trans (hb.mono h.bel.size), Nat.le_trans h.hi hb.size⟩
theorem KlSt.after1 (h : KlSt tS tC tI w v1 v2 cs ks wr) {W' : World} (hg : wr.grownBy W' v1.ownBlock) : W'.heap[w.heap.size]? = some (.cells #[v1, v2] tS (0, 0)) :=
  (hg.block _ (Array.getElem?_eq_some_iff.1 h.b).1 (fun e => by have := (World.ownsRow.lt h.o1 _ e.symm).1; omega)).trans h.b
theorem KlSt.cols (h : KlSt tS tC tI w v1 v2 cs ks wr) (hne : tC ≠ tI) {W' : World} {v1' : Value} {c : Co} (hown : W'.ownsRow (w.heap.size + 1) tC 7 v1' (cs.length + 1) (colV cs ++ coV c)) (hg : wr.grownBy W' v1.ownBlock) : KlSt tS tC tI w v1' v2 (cs ++ [c]) ks (W'.setCell ⟨w.heap.size, 0, none⟩ v1') := by
 have ho2 : OwnCo W' (w.heap.size + 1) tC v1' (cs ++ [c]) := by
  unfold OwnCo; rw [List.length_append, colV_app, show colV [c] = coV c by simp [colV]]; exact hown
 exact ⟨two_set0 (h.after1 hg) _, own_set' ho2 (by omega) _, own_set' (World.ownsRow.kept h.o2 hg (own_apart h.o2 h.o1 (Ne.symm hne))) (by omega) _, (own_grown h.o1 h.bel h.bel.size (by omega) hg).setCell (p := ⟨w.heap.size, 0, none⟩) le_ _, by simp only [World.size_setCell]; exact Nat.le_trans h.hi hg.size⟩
end
end Go.Ms
