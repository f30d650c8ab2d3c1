/- Cells: what each kind's fields answer, said by the plain functions; what 'of' gives, kind by kind. Cells: which types may be; nothing's cell of a type; what is checked. -/
import Derived.Test.YthlinmkengoliaaGreatDoorZE11
import Derived.Test.YthlinmkengoliaaGreatDoorZA
set_option linter.unusedVariables false
namespace Go.Proofs.YthlinmkengoliaaGreatDoor
open Go.RowKit Go.Ms Go.Lib
theorem strS (S : ByteArray) : (⟨S.data.toList.toArray⟩ : ByteArray) = S := (ba_ext rfl).symm
theorem lenS (S : ByteArray) : S.data.toList.length = S.size := by simp
structure Pl (lo hi : Int) (a b : Nat) (w : World) : Prop where
  ca : w.cell? ⟨a, 0, none⟩ = some (.int .i64 lo)
  cb : w.cell? ⟨b, 0, none⟩ = some (.int .i64 hi)
structure Vl (a : Nat) (w : World) : Prop where
  ca : w.cell? ⟨a, 0, none⟩ = some (fnV 109)
theorem Pl.below {lo hi : Int} {a b : Nat} {w w' : World} (h : Pl lo hi a b w) (hb : Below w.heap.size w w') : Pl lo hi a b w' :=
  ⟨by rw [hb.cell (cell_lt h.ca)]; exact h.ca, by rw [hb.cell (cell_lt h.cb)]; exact h.cb⟩
theorem Vl.below {a : Nat} {w w' : World} (h : Vl a w) (hb : Below w.heap.size w w') : Vl a w' := ⟨by rw [hb.cell (cell_lt h.ca)]; exact h.ca⟩
theorem of_1 (nu : Bool) (w : World) :
    Calls Tryz.prog 82 #[.agg #[.int .i64 1, .bool nu]] w fun e w' => ∃ a b, e = .returned (.agg #[plainV a b, fnV 110, fnV 112, fnV 113, fnV 114]) ∧ Pl 0 1 a b w' ∧ Below w.heap.size w w' := by
 refine (of_any 1 (by omega) nu w).mono ?_; rintro e w' ⟨v, rfl, hk, hb⟩
 rcases hk with ⟨h, ⟨a, b, rfl, h1, h2⟩⟩ | ⟨h, _⟩ | ⟨h, _⟩ | ⟨h, _⟩ | ⟨h, _⟩
 · exact ⟨a, b, rfl, ⟨h1, h2⟩, hb⟩
 · omega
 · omega
 · omega
 · omega
theorem of_2 (nu : Bool) (w : World) :
    Calls Tryz.prog 82 #[.agg #[.int .i64 2, .bool nu]] w fun e w' => ∃ a b, e = .returned (.agg #[plainV a b, fnV 115, fnV 116, fnV 117, fnV 118]) ∧ Pl (-2147483648) 2147483647 a b w' ∧ Below w.heap.size w w' := by
 refine (of_any 2 (by omega) nu w).mono ?_; rintro e w' ⟨v, rfl, hk, hb⟩
 rcases hk with ⟨h, _⟩ | ⟨h, ⟨a, b, rfl, h1, h2⟩⟩ | ⟨h, _⟩ | ⟨h, _⟩ | ⟨h, _⟩
 · omega
 · exact ⟨a, b, rfl, ⟨h1, h2⟩, hb⟩
 · omega
 · omega
 · omega
theorem of_3 (nu : Bool) (w : World) :
    Calls Tryz.prog 82 #[.agg #[.int .i64 3, .bool nu]] w fun e w' => ∃ a b, e = .returned (.agg #[plainV a b, fnV 115, fnV 116, fnV 117, fnV 118]) ∧ Pl (-9223372036854775808) 9223372036854775807 a b w' ∧ Below w.heap.size w w' := by
 refine (of_any 3 (by omega) nu w).mono ?_; rintro e w' ⟨v, rfl, hk, hb⟩
 rcases hk with ⟨h, _⟩ | ⟨h, _⟩ | ⟨h, ⟨a, b, rfl, h1, h2⟩⟩ | ⟨h, _⟩ | ⟨h, _⟩
 · omega
 · omega
 · exact ⟨a, b, rfl, ⟨h1, h2⟩, hb⟩
 · omega
 · omega
theorem of_4 (nu : Bool) (w : World) :
    Calls Tryz.prog 82 #[.agg #[.int .i64 4, .bool nu]] w fun e w' => ∃ a, e = .returned (.agg #[validV a, fnV 121, fnV 122, fnV 123, fnV 124]) ∧ Vl a w' ∧ Below w.heap.size w w' := by
 refine (of_any 4 (by omega) nu w).mono ?_; rintro e w' ⟨v, rfl, hk, hb⟩
 rcases hk with ⟨h, _⟩ | ⟨h, _⟩ | ⟨h, _⟩ | ⟨h, ⟨a, rfl, h1⟩⟩ | ⟨h, _⟩
 · omega
 · omega
 · omega
 · exact ⟨a, rfl, ⟨h1⟩, hb⟩
 · omega
theorem of_5 (nu : Bool) (w : World) :
    Calls Tryz.prog 82 #[.agg #[.int .i64 5, .bool nu]] w fun e w' => e = .returned (.agg #[fnV 109, fnV 125, fnV 126, fnV 123, fnV 124]) ∧ Below w.heap.size w w' := by
 refine (of_any 5 (by omega) nu w).mono ?_; rintro e w' ⟨v, rfl, hk, hb⟩
 rcases hk with ⟨h, _⟩ | ⟨h, _⟩ | ⟨h, _⟩ | ⟨h, _⟩ | ⟨h, rfl⟩
 · omega
 · omega
 · omega
 · omega
 · exact ⟨rfl, hb⟩
theorem is_1 (a b : Nat) (n : Int) (nu : Bool) (S : ByteArray) (w : World) (hp : Pl 0 1 a b w) :
    Calls Tryz.prog 108 #[.agg #[.bool nu, .int .i64 n, .string S], .pointer (some ⟨a, 0, none⟩), .pointer (some ⟨b, 0, none⟩)] w fun e w' => e = .returned (.bool (kIs 1 n S.data.toList)) ∧ Below w.heap.size w w' := by
 have h := kplain_any a b 0 1 n nu S.data.toList w hp.ca hp.cb; rw [strS] at h; exact h
theorem is_2 (a b : Nat) (n : Int) (nu : Bool) (S : ByteArray) (w : World) (hp : Pl (-2147483648) 2147483647 a b w) :
    Calls Tryz.prog 108 #[.agg #[.bool nu, .int .i64 n, .string S], .pointer (some ⟨a, 0, none⟩), .pointer (some ⟨b, 0, none⟩)] w fun e w' => e = .returned (.bool (kIs 2 n S.data.toList)) ∧ Below w.heap.size w w' := by
 have h := kplain_any a b (-2147483648) 2147483647 n nu S.data.toList w hp.ca hp.cb; rw [strS] at h; exact h
theorem is_3 (a b : Nat) (n : Int) (nu : Bool) (S : ByteArray) (w : World) (hp : Pl (-9223372036854775808) 9223372036854775807 a b w) :
    Calls Tryz.prog 108 #[.agg #[.bool nu, .int .i64 n, .string S], .pointer (some ⟨a, 0, none⟩), .pointer (some ⟨b, 0, none⟩)] w fun e w' => e = .returned (.bool (kIs 3 n S.data.toList)) ∧ Below w.heap.size w w' := by
 have h := kplain_any a b (-9223372036854775808) 9223372036854775807 n nu S.data.toList w hp.ca hp.cb; rw [strS] at h; exact h
theorem is_4 (a : Nat) (n : Int) (nu : Bool) (S : ByteArray) (w : World) (hp : Vl a w) (hs : S.size ≤ 100000) (hE : Env w) :
    Calls Tryz.prog 119 #[.agg #[.bool nu, .int .i64 n, .string S], .pointer (some ⟨a, 0, none⟩)] w fun e w' => e = .returned (.bool (kIs 4 n S.data.toList)) ∧ Below w.heap.size w w' := by
 have h := kvalid_str a n nu S w hp.ca hs hE.tabs; rw [← lenS] at h; exact h
theorem is_5 (n : Int) (nu : Bool) (S : ByteArray) (w : World) (hs : S.size ≤ 100000) :
    Calls Tryz.prog 109 #[.agg #[.bool nu, .int .i64 n, .string S]] w fun e w' => e = .returned (.bool (kIs 5 n S.data.toList)) ∧ Below w.heap.size w w' := by
 have h := ksize_any n nu S.data.toList w (by rw [lenS]; exact hs); rw [strS] at h; exact h
theorem text_1 (n : Int) (nu : Bool) (S : ByteArray) (w : World) :
    Calls Tryz.prog 110 #[.agg #[.bool nu, .int .i64 n, .string S]] w fun e w' => e = .returned (.string ⟨(kText 1 n S.data.toList).toArray⟩) ∧ Below w.heap.size w w' := by
 have h := tbool_any n nu S.data.toList w; rw [strS] at h; exact h
theorem text_2 (n : Int) (nu : Bool) (S : ByteArray) (w : World) (h0 : -9223372036854775808 ≤ n) (h1 : n ≤ 9223372036854775807) (hE : Env w) :
    Calls Tryz.prog 115 #[.agg #[.bool nu, .int .i64 n, .string S]] w fun e w' => e = .returned (.string ⟨(kText 2 n S.data.toList).toArray⟩) ∧ Below w.heap.size w w' := by
 exact digits_str n nu S w h0 h1 hE
theorem text_3 (n : Int) (nu : Bool) (S : ByteArray) (w : World) (h0 : -9223372036854775808 ≤ n) (h1 : n ≤ 9223372036854775807) (hE : Env w) :
    Calls Tryz.prog 115 #[.agg #[.bool nu, .int .i64 n, .string S]] w fun e w' => e = .returned (.string ⟨(kText 3 n S.data.toList).toArray⟩) ∧ Below w.heap.size w w' := by
 exact digits_str n nu S w h0 h1 hE
theorem text_4 (n : Int) (nu : Bool) (S : ByteArray) (w : World) (hs : S.size ≤ 100000) (hE : Env w) :
    Calls Tryz.prog 121 #[.agg #[.bool nu, .int .i64 n, .string S]] w fun e w' => e = .returned (.string ⟨(kText 4 n S.data.toList).toArray⟩) ∧ Below w.heap.size w w' := by
 exact kquote_str n nu S w hs hE.tabs
theorem text_5 (n : Int) (nu : Bool) (S : ByteArray) (w : World) (hs : S.size ≤ 100000) :
    Calls Tryz.prog 125 #[.agg #[.bool nu, .int .i64 n, .string S]] w fun e w' => e = .returned (.string ⟨(kText 5 n S.data.toList).toArray⟩) ∧ Below w.heap.size w w' := by
 exact hex_str n nu S w hs
theorem read_1 (S : ByteArray) (w : World) :
    Calls Tryz.prog 112 #[.string S] w fun e w' => e = .returned (.agg #[.bool false, .int .i64 (kRead 1 S.data.toList).1, .string ⟨(kRead 1 S.data.toList).2.toArray⟩]) ∧ Below w.heap.size w w' := by
 exact truth_any S w
theorem read_2 (S : ByteArray) (w : World) (hs : S.size ≤ 100000) (hE : Env w) :
    Calls Tryz.prog 116 #[.string S] w fun e w' => e = .returned (.agg #[.bool false, .int .i64 (kRead 2 S.data.toList).1, .string ⟨(kRead 2 S.data.toList).2.toArray⟩]) ∧ Below w.heap.size w w' := by
 exact whole_any S w hs hE
theorem read_3 (S : ByteArray) (w : World) (hs : S.size ≤ 100000) (hE : Env w) :
    Calls Tryz.prog 116 #[.string S] w fun e w' => e = .returned (.agg #[.bool false, .int .i64 (kRead 3 S.data.toList).1, .string ⟨(kRead 3 S.data.toList).2.toArray⟩]) ∧ Below w.heap.size w w' := by
 exact whole_any S w hs hE
theorem read_4 (S : ByteArray) (w : World) (hs : S.size ≤ 100000) (hE : Env w) :
    Calls Tryz.prog 122 #[.string S] w fun e w' => e = .returned (.agg #[.bool false, .int .i64 (kRead 4 S.data.toList).1, .string ⟨(kRead 4 S.data.toList).2.toArray⟩]) ∧ Below w.heap.size w w' := by
 exact kunquote_any S w hs hE.tabs
theorem read_5 (S : ByteArray) (w : World) (hs : S.size ≤ 100000) :
    Calls Tryz.prog 126 #[.string S] w fun e w' => e = .returned (.agg #[.bool false, .int .i64 (kRead 5 S.data.toList).1, .string ⟨(kRead 5 S.data.toList).2.toArray⟩]) ∧ Below w.heap.size w w' := by
 exact unhex_any S w hs
end Go.Proofs.YthlinmkengoliaaGreatDoor
namespace Go.Proofs.YthlinmkengoliaaGreatDoor
open Go.RowKit Go.Ms Go.Lib
theorem may_any (k : Int) (nu : Bool) (w : World) :
    Calls Tryz.prog 81 #[.agg #[.int .i64 k, .bool nu]] w fun e w' => e = .returned (.bool (kMay k)) ∧ Below w.heap.size w w' := by
 by_cases h1 : 0 < k
 · by_cases h2 : k < 6
   · have hd : kMay k = true := by simp [kMay]; omega
     rw [hd]; clear hd
     go_enter Tryz.func81, Tryz.ntmps81
     go_wp2
     go_ret
     exact ⟨rfl, (Below.refl _ _).alloc (Nat.le_refl _) _⟩
   · have hd : kMay k = false := by simp [kMay]; omega
     rw [hd]; clear hd
     go_enter Tryz.func81, Tryz.ntmps81
     go_wp2
     go_ret
     exact ⟨rfl, (Below.refl _ _).alloc (Nat.le_refl _) _⟩
 · have hd : kMay k = false := by simp [kMay]; omega
   rw [hd]; clear hd
   go_enter Tryz.func81, Tryz.ntmps81
   go_wp2
   go_ret
   exact ⟨rfl, (Below.refl _ _).alloc (Nat.le_refl _) _⟩
structure Box2 (w w1 : World) (C1 C2 : Array Value) (T1 T2 : TypeId) : Prop where
  b1 : w1.heap[w.heap.size]? = some (.cells C1 T1 (0, 0))
  b2 : w1.heap[w.heap.size + 1]? = some (.cells C2 T2 (0, 0))
  bel : Below w.heap.size w w1
  bel2 : Below (w.heap.size + 2) ((w.alloc (.cells C1 T1)).alloc (.cells C2 T2)) w1
  lt : w.heap.size + 2 ≤ w1.heap.size
theorem Box2.start (w : World) (C1 C2 : Array Value) (T1 T2 : TypeId) : Box2 w ((w.alloc (.cells C1 T1)).alloc (.cells C2 T2)) C1 C2 T1 T2 := by
 refine ⟨?_, ?_, ((Below.refl _ _).alloc (Nat.le_refl _) _).alloc (by simp) _, Below.refl _ _, by simp⟩
 · rw [Lib.alloc_old _ _ _ (by simp)]; exact heap_alloc_new w _
 · have := heap_alloc_new (w.alloc (.cells C1 T1)) (.cells C2 T2)
   simpa using this
theorem Box2.step {w w1 w2 : World} {C1 C2 : Array Value} {T1 T2 : TypeId} (h : Box2 w w1 C1 C2 T1 T2) (hb : Below w1.heap.size w1 w2) : Box2 w w2 C1 C2 T1 T2 :=
  ⟨by rw [hb.block _ (by have := h.lt; omega)]; exact h.b1, by rw [hb.block _ (by have := h.lt; omega)]; exact h.b2, h.bel.trans (hb.mono h.bel.size), h.bel2.trans (hb.mono h.lt), Nat.le_trans h.lt hb.size⟩
def TC (w w1 : World) (k : Int) (tn nu : Bool) (n : Int) (S : ByteArray) : Prop :=
  w1.cell? ⟨w.heap.size, 0, none⟩ = some (.int .i64 k) ∧ w1.cell? ⟨w.heap.size, 1, none⟩ = some (.bool tn) ∧ w1.cell? ⟨w.heap.size + 1, 0, none⟩ = some (.bool nu) ∧ w1.cell? ⟨w.heap.size + 1, 1, none⟩ = some (.int .i64 n) ∧ w1.cell? ⟨w.heap.size + 1, 2, none⟩ = some (.string S)
theorem Box2.tc {w w1 : World} {k : Int} {tn nu : Bool} {n : Int} {S : ByteArray} {T1 T2 : TypeId} (h : Box2 w w1 #[.int .i64 k, .bool tn] #[.bool nu, .int .i64 n, .string S] T1 T2) : TC w w1 k tn nu n S :=
  ⟨by rw [Lib.cell_of_heap h.b1]; rfl, by rw [Lib.cell_of_heap h.b1]; rfl, by rw [Lib.cell_of_heap h.b2]; rfl, by rw [Lib.cell_of_heap h.b2]; rfl, by rw [Lib.cell_of_heap h.b2]; rfl⟩
theorem kfield0 (x0 x1 x2 x3 x4 : Value) (w : World) : (Instr.field 116 (.agg #[x0, x1, x2, x3, x4]) 0).run Tryz.prog w = .ok x0 w := by kernel_rfl
theorem kfield1 (x0 x1 x2 x3 x4 : Value) (w : World) : (Instr.field 116 (.agg #[x0, x1, x2, x3, x4]) 1).run Tryz.prog w = .ok x1 w := by kernel_rfl
theorem kfield2 (x0 x1 x2 x3 x4 : Value) (w : World) : (Instr.field 116 (.agg #[x0, x1, x2, x3, x4]) 2).run Tryz.prog w = .ok x2 w := by kernel_rfl
end Go.Proofs.YthlinmkengoliaaGreatDoor
