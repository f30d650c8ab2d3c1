/- Facts for the walks. -/
import Derived.Test.YtklpmghdiflcbaaGreatDoorZP1
import Derived.Test.YtklpmghdiflcbaaGreatDoorZA
import Derived.MapKept
set_option linter.unusedVariables false
namespace Go.Proofs.YtklpmghdiflcbaaGreatDoor
open Go.RowKit Go.Ms Go.Lib Go.MapKept

def es1 : Array MapEntry := #[{ key := .int .i32 34, val := .int .u8 34, born := 0 }]
def es2 : Array MapEntry := es1.push { key := .int .i32 92, val := .int .u8 92, born := 1 }
def es3 : Array MapEntry := es2.push { key := .int .i32 8, val := .int .u8 98, born := 2 }
def es4 : Array MapEntry := es3.push { key := .int .i32 12, val := .int .u8 102, born := 3 }
def es5 : Array MapEntry := es4.push { key := .int .i32 10, val := .int .u8 110, born := 4 }
def es6 : Array MapEntry := es5.push { key := .int .i32 13, val := .int .u8 114, born := 5 }
def es7 : Array MapEntry := es6.push { key := .int .i32 9, val := .int .u8 116, born := 6 }

theorem setObj_last (w : World) (o o' : Obj) : ({ w.alloc o with heap := (w.alloc o).heap.setIfInBounds w.heap.size o' } : World) = w.alloc o' := by
  show ({ w.alloc o with heap := (w.heap.push o).setIfInBounds w.heap.size o' } : World) = _
  have : (w.heap.push o).setIfInBounds w.heap.size o' = w.heap.push o' := by
    apply Array.ext_getElem?
    intro i
    simp only [Array.getElem?_setIfInBounds, Array.getElem?_push, Array.size_push]
    by_cases h : i = w.heap.size
    · subst h; simp
    · simp [h, Ne.symm h]
  rw [this]
  rfl

theorem isKey_int (k : IntKind) (n : Int) : IsKey (.int k) (.int k n) := rfl

theorem ins_new (w : World) (n : Nat) (hn : n = w.heap.size) (es : Array MapEntry) (clock : Nat) (k v : Int) (hf : Instr.findNow (.int .i32) (.int .i32 k) es.toList 0 = some none) :
    (Instr.mapUpdate 122 (.map (some n)) (.int .i32 k) (.int .u8 v)).run Tryz.prog (w.alloc (.map es clock)) = .ok () (w.alloc (.map (es.push { key := .int .i32 k, val := .int .u8 v, born := clock }) (clock + 1))) := by
  subst hn
  have hg : (w.alloc (.map es clock)).heap[w.heap.size]? = some (.map es clock) := heap_alloc_new w _
  have hk := run_findKey (P := Tryz.prog) (w := w.alloc (.map es clock)) (kt := 21) (k := .int .i32 k) (l := es.toList) (a := none) Tryz.underlying21 hf
  have hc := run_checkKey (P := Tryz.prog) (w := w.alloc (.map es clock)) (kt := 21) (k := .int .i32 k) Tryz.underlying21 (isKey_int .i32 k) false 9999
  simp only [Instr.mapUpdate, Sem.run_bind, run_underlying Tryz.underlying122, Result.andThen, MapKept.run_getObj_map hg, hc, hk, MapKept.run_setObj_map _ hg]
  rw [setObj_last]

theorem short_any (w : World) :
    Calls Tryz.prog 107 #[] w fun e w' => e = .returned (.map (some w.heap.size)) ∧ w.alloc (.map es7 7) = w' := by
  have hmm := @run_makeMap Tryz.prog
  have i1 : ∀ (w : World) (n : Nat), n = w.heap.size → (Instr.mapUpdate 122 (.map (some n)) (.int .i32 34) (.int .u8 34)).run Tryz.prog (w.alloc (.map #[] 0)) = .ok () (w.alloc (.map es1 1)) := fun w n hn => ins_new w n hn #[] 0 34 34 rfl
  have i2 : ∀ (w : World) (n : Nat), n = w.heap.size → (Instr.mapUpdate 122 (.map (some n)) (.int .i32 92) (.int .u8 92)).run Tryz.prog (w.alloc (.map es1 1)) = .ok () (w.alloc (.map es2 2)) := fun w n hn => ins_new w n hn es1 1 92 92 rfl
  have i3 : ∀ (w : World) (n : Nat), n = w.heap.size → (Instr.mapUpdate 122 (.map (some n)) (.int .i32 8) (.int .u8 98)).run Tryz.prog (w.alloc (.map es2 2)) = .ok () (w.alloc (.map es3 3)) := fun w n hn => ins_new w n hn es2 2 8 98 rfl
  have i4 : ∀ (w : World) (n : Nat), n = w.heap.size → (Instr.mapUpdate 122 (.map (some n)) (.int .i32 12) (.int .u8 102)).run Tryz.prog (w.alloc (.map es3 3)) = .ok () (w.alloc (.map es4 4)) := fun w n hn => ins_new w n hn es3 3 12 102 rfl
  have i5 : ∀ (w : World) (n : Nat), n = w.heap.size → (Instr.mapUpdate 122 (.map (some n)) (.int .i32 10) (.int .u8 110)).run Tryz.prog (w.alloc (.map es4 4)) = .ok () (w.alloc (.map es5 5)) := fun w n hn => ins_new w n hn es4 4 10 110 rfl
  have i6 : ∀ (w : World) (n : Nat), n = w.heap.size → (Instr.mapUpdate 122 (.map (some n)) (.int .i32 13) (.int .u8 114)).run Tryz.prog (w.alloc (.map es5 5)) = .ok () (w.alloc (.map es6 6)) := fun w n hn => ins_new w n hn es5 5 13 114 rfl
  have i7 : ∀ (w : World) (n : Nat), n = w.heap.size → (Instr.mapUpdate 122 (.map (some n)) (.int .i32 9) (.int .u8 116)).run Tryz.prog (w.alloc (.map es6 6)) = .ok () (w.alloc (.map es7 7)) := fun w n hn => ins_new w n hn es6 6 9 116 rfl
  go_enter Tryz.func107, Tryz.ntmps107
  go_wp2
  go_ret
  exact ⟨rfl, rfl⟩

/-- What the map answers. -/
theorem find7 (r : Int) : Instr.findNow (.int .i32) (.int .i32 r) es7.toList 0 = some (match esc2 r with | some c => (some ((if r = 34 then 0 else if r = 92 then 1 else if r = 8 then 2 else if r = 12 then 3 else if r = 10 then 4 else if r = 13 then 5 else 6 : Nat), .int .u8 c)) | none => none) := by
  unfold esc2
  by_cases h1 : r = 34
  · subst h1; rfl
  by_cases h2 : r = 92
  · subst h2; rfl
  by_cases h3 : r = 8
  · subst h3; rfl
  by_cases h4 : r = 12
  · subst h4; rfl
  by_cases h5 : r = 10
  · subst h5; rfl
  by_cases h6 : r = 13
  · subst h6; rfl
  by_cases h7 : r = 9
  · subst h7; rfl
  · have b1 : (r == 34) = false := by simpa using h1
    have b2 : (r == 92) = false := by simpa using h2
    have b3 : (r == 8) = false := by simpa using h3
    have b4 : (r == 12) = false := by simpa using h4
    have b5 : (r == 10) = false := by simpa using h5
    have b6 : (r == 13) = false := by simpa using h6
    have b7 : (r == 9) = false := by simpa using h7
    simp [h1, h2, h3, h4, h5, h6, h7, b1, b2, b3, b4, b5, b6, b7, es7, es6, es5, es4, es3, es2, es1, Instr.findNow, Instr.sameNow]

theorem look_some (w : World) (m : Nat) (r c : Int) (hm : w.heap[m]? = some (.map es7 7)) (hr : esc2 r = some c) :
    (Instr.lookup 122 (.map (some m)) (.int .i32 r) true).run Tryz.prog w = .ok (.tuple #[.int .u8 c, .bool true]) w := by
  have hf := find7 r
  rw [hr] at hf
  have hk := run_findKey (P := Tryz.prog) (w := w) (kt := 21) (k := .int .i32 r) (l := es7.toList) Tryz.underlying21 hf
  have hc := run_checkKey (P := Tryz.prog) (w := w) (kt := 21) (k := .int .i32 r) Tryz.underlying21 (isKey_int .i32 r) es7.isEmpty 9999
  have hg := MapKept.run_getObj_map (P := Tryz.prog) hm
  simp only [Instr.lookup, Sem.run_bind, run_underlying Tryz.underlying122, Result.andThen, hg, hc, hk, Sem.run_pure, if_true]
theorem look_none (w : World) (m : Nat) (r : Int) (hm : w.heap[m]? = some (.map es7 7)) (hr : esc2 r = none) :
    (Instr.lookup 122 (.map (some m)) (.int .i32 r) true).run Tryz.prog w = .ok (.tuple #[.int .u8 0, .bool false]) w := by
  have hf := find7 r
  rw [hr] at hf
  have hk := run_findKey (P := Tryz.prog) (w := w) (kt := 21) (k := .int .i32 r) (l := es7.toList) Tryz.underlying21 hf
  have hc := run_checkKey (P := Tryz.prog) (w := w) (kt := 21) (k := .int .i32 r) Tryz.underlying21 (isKey_int .i32 r) es7.isEmpty 9999
  have hg := MapKept.run_getObj_map (P := Tryz.prog) hm
  simp only [Instr.lookup, Sem.run_bind, run_underlying Tryz.underlying122, Result.andThen, hg, hc, hk, Sem.run_pure, if_true, Tryz.zeroValue5]
end Go.Proofs.YtklpmghdiflcbaaGreatDoor
