/- Facts for the walks. -/
import Derived.Test.YthlinmkengoliaaGreatDoorZPa
import Derived.Test.YthlinmkengoliaaGreatDoorZA
import Derived.MapKept
import Derived.StillTailTactics
set_option linter.unusedVariables false
namespace Go.Proofs.YthlinmkengoliaaGreatDoor
open Go.RowKit Go.Ms Go.Lib Go.MapKept
def es1 : Array MapEntry := #[{ key := .int .i32 34, val := .int .u8 34, born := 0 }]
def es2 : Array MapEntry := es1.push { key := .int .i32 92, val := .int .u8 92, born := 1 }
def es3 : Array MapEntry := es2.push { key := .int .i32 8, val := .int .u8 98, born := 2 }
def es4 : Array MapEntry := es3.push { key := .int .i32 12, val := .int .u8 102, born := 3 }
def es5 : Array MapEntry := es4.push { key := .int .i32 10, val := .int .u8 110, born := 4 }
def es6 : Array MapEntry := es5.push { key := .int .i32 13, val := .int .u8 114, born := 5 }
def es7 : Array MapEntry := es6.push { key := .int .i32 9, val := .int .u8 116, born := 6 }
theorem setObj_last (w : World) (o o' : Obj) : ({ w.alloc o with heap := (w.alloc o).heap.setIfInBounds w.heap.size o' } : World) = w.alloc o' := by
 show ({ w.alloc o with heap := (w.heap.push o).setIfInBounds w.heap.size o' } : World) = _
 have : (w.heap.push o).setIfInBounds w.heap.size o' = w.heap.push o' := by
  apply Array.ext_getElem?
  intro i
  simp only [Array.getElem?_setIfInBounds, Array.getElem?_push, Array.size_push]
  by_cases h : i = w.heap.size
  · subst h; simp
  · simp [h, Ne.symm h]
 rw [this]; rfl
theorem isKey_int (k : IntKind) (n : Int) : IsKey (.int k) (.int k n) := rfl
theorem ins_new (w : World) (n : Nat) (hn : n = w.heap.size) (es : Array MapEntry) (clock : Nat) (k v : Int) (hf : Instr.findNow (.int .i32) (.int .i32 k) es.toList 0 = some none) :
    (Instr.mapUpdate 185 (.map (some n)) (.int .i32 k) (.int .u8 v)).run Tryz.prog (w.alloc (.map es clock)) = .ok () (w.alloc (.map (es.push { key := .int .i32 k, val := .int .u8 v, born := clock }) (clock + 1))) := by
 subst hn; have hg : (w.alloc (.map es clock)).heap[w.heap.size]? = some (.map es clock) := heap_alloc_new w _; have hk := run_findKey (P := Tryz.prog) (w := w.alloc (.map es clock)) (kt := 21) (k := .int .i32 k) (l := es.toList) (a := none) Tryz.underlying21 hf; have hc := run_checkKey (P := Tryz.prog) (w := w.alloc (.map es clock)) (kt := 21) (k := .int .i32 k) Tryz.underlying21 (isKey_int .i32 k) false 9999; simp only [Instr.mapUpdate, Sem.run_bind, run_underlying Tryz.underlying185, Result.andThen, MapKept.run_getObj_map hg, hc, hk, MapKept.run_setObj_map _ hg]; rw [setObj_last]
theorem short_any (w : World) :
    Calls Tryz.prog 175 #[] w fun e w' => e = .returned (.map (some w.heap.size)) ∧ w.alloc (.map es7 7) = w' := by
 have hmm := @run_makeMap Tryz.prog
 have i1 : ∀ (w : World) (n : Nat), n = w.heap.size → (Instr.mapUpdate 185 (.map (some n)) (.int .i32 34) (.int .u8 34)).run Tryz.prog (w.alloc (.map #[] 0)) = .ok () (w.alloc (.map es1 1)) := fun w n hn => ins_new w n hn #[] 0 34 34 rfl
 have i2 : ∀ (w : World) (n : Nat), n = w.heap.size → (Instr.mapUpdate 185 (.map (some n)) (.int .i32 92) (.int .u8 92)).run Tryz.prog (w.alloc (.map es1 1)) = .ok () (w.alloc (.map es2 2)) := fun w n hn => ins_new w n hn es1 1 92 92 rfl
 have i3 : ∀ (w : World) (n : Nat), n = w.heap.size → (Instr.mapUpdate 185 (.map (some n)) (.int .i32 8) (.int .u8 98)).run Tryz.prog (w.alloc (.map es2 2)) = .ok () (w.alloc (.map es3 3)) := fun w n hn => ins_new w n hn es2 2 8 98 rfl
 have i4 : ∀ (w : World) (n : Nat), n = w.heap.size → (Instr.mapUpdate 185 (.map (some n)) (.int .i32 12) (.int .u8 102)).run Tryz.prog (w.alloc (.map es3 3)) = .ok () (w.alloc (.map es4 4)) := fun w n hn => ins_new w n hn es3 3 12 102 rfl
 have i5 : ∀ (w : World) (n : Nat), n = w.heap.size → (Instr.mapUpdate 185 (.map (some n)) (.int .i32 10) (.int .u8 110)).run Tryz.prog (w.alloc (.map es4 4)) = .ok () (w.alloc (.map es5 5)) := fun w n hn => ins_new w n hn es4 4 10 110 rfl
 have i6 : ∀ (w : World) (n : Nat), n = w.heap.size → (Instr.mapUpdate 185 (.map (some n)) (.int .i32 13) (.int .u8 114)).run Tryz.prog (w.alloc (.map es5 5)) = .ok () (w.alloc (.map es6 6)) := fun w n hn => ins_new w n hn es5 5 13 114 rfl
 have i7 : ∀ (w : World) (n : Nat), n = w.heap.size → (Instr.mapUpdate 185 (.map (some n)) (.int .i32 9) (.int .u8 116)).run Tryz.prog (w.alloc (.map es6 6)) = .ok () (w.alloc (.map es7 7)) := fun w n hn => ins_new w n hn es6 6 9 116 rfl
 go_enter Tryz.func175, Tryz.ntmps175
 go_wp2
 go_ret
 exact ⟨rfl, rfl⟩
theorem find7 (r : Int) : Instr.findNow (.int .i32) (.int .i32 r) es7.toList 0 = some (match esc2 r with | some c => (some ((if r = 34 then 0 else if r = 92 then 1 else if r = 8 then 2 else if r = 12 then 3 else if r = 10 then 4 else if r = 13 then 5 else 6 : Nat), .int .u8 c)) | none => none) := by
 unfold esc2
 by_cases h1 : r = 34
 · subst h1; rfl
 by_cases h2 : r = 92
 · subst h2; rfl
 by_cases h3 : r = 8
 · subst h3; rfl
 by_cases h4 : r = 12
 · subst h4; rfl
 by_cases h5 : r = 10
 · subst h5; rfl
 by_cases h6 : r = 13
 · subst h6; rfl
 by_cases h7 : r = 9
 · subst h7; rfl
 · have b1 : (r == 34) = false := by simpa using h1
   have b2 : (r == 92) = false := by simpa using h2
   have b3 : (r == 8) = false := by simpa using h3
   have b4 : (r == 12) = false := by simpa using h4
   have b5 : (r == 10) = false := by simpa using h5
   have b6 : (r == 13) = false := by simpa using h6
   have b7 : (r == 9) = false := by simpa using h7
   simp [h1, h2, h3, h4, h5, h6, h7, b1, b2, b3, b4, b5, b6, b7, es7, es6, es5, es4, es3, es2, es1, Instr.findNow, Instr.sameNow]
theorem look_some (w : World) (m : Nat) (r c : Int) (hm : w.heap[m]? = some (.map es7 7)) (hr : esc2 r = some c) :
    (Instr.lookup 185 (.map (some m)) (.int .i32 r) true).run Tryz.prog w = .ok (.tuple #[.int .u8 c, .bool true]) w := by
 have hf := find7 r; rw [hr] at hf; have hk := run_findKey (P := Tryz.prog) (w := w) (kt := 21) (k := .int .i32 r) (l := es7.toList) Tryz.underlying21 hf; have hc := run_checkKey (P := Tryz.prog) (w := w) (kt := 21) (k := .int .i32 r) Tryz.underlying21 (isKey_int .i32 r) es7.isEmpty 9999; have hg := MapKept.run_getObj_map (P := Tryz.prog) hm; simp only [Instr.lookup, Sem.run_bind, run_underlying Tryz.underlying185, Result.andThen, hg, hc, hk, Sem.run_pure, if_true]
theorem look_none (w : World) (m : Nat) (r : Int) (hm : w.heap[m]? = some (.map es7 7)) (hr : esc2 r = none) :
    (Instr.lookup 185 (.map (some m)) (.int .i32 r) true).run Tryz.prog w = .ok (.tuple #[.int .u8 0, .bool false]) w := by
 have hf := find7 r; rw [hr] at hf; have hk := run_findKey (P := Tryz.prog) (w := w) (kt := 21) (k := .int .i32 r) (l := es7.toList) Tryz.underlying21 hf; have hc := run_checkKey (P := Tryz.prog) (w := w) (kt := 21) (k := .int .i32 r) Tryz.underlying21 (isKey_int .i32 r) es7.isEmpty 9999; have hg := MapKept.run_getObj_map (P := Tryz.prog) hm; simp only [Instr.lookup, Sem.run_bind, run_underlying Tryz.underlying185, Result.andThen, hg, hc, hk, Sem.run_pure, if_true, Tryz.zeroValue5]
end Go.Proofs.YthlinmkengoliaaGreatDoor
namespace Go.Proofs.YthlinmkengoliaaGreatDoor
open Go.RowKit Go.Ms Go.Lib Go.MapKept
theorem dig_ext : ∀ k : Fin 16, (⟨#[48, 49, 50, 51, 52, 53, 54, 55, 56, 57, 97, 98, 99, 100, 101, 102]⟩ : ByteArray).extract k.val (k.val + 1) = ⟨#[hexd k.val]⟩ := by decide
theorem strCells_app (a b : ByteArray) : strCells (a ++ b) = strCells a ++ strCells b := by
 unfold strCells; rw [ByteArray.data_append, Array.toList_append, List.map_append]
theorem strCells_lit (l : Array UInt8) : strCells ⟨l⟩ = byteCells l.toList := rfl
theorem and15 : ∀ k : Fin 32, bits .and .i32 ((k.val : Nat) : Int) 15 = ((k.val % 16 : Nat) : Int) := by decide
theorem dig_at (x : Int) (h0 : 0 ≤ x) (h1 : x < 16) : (⟨#[48, 49, 50, 51, 52, 53, 54, 55, 56, 57, 97, 98, 99, 100, 101, 102]⟩ : ByteArray).extract x.toNat (x + 1).toNat = ⟨#[hexd x.toNat]⟩ := by
 have := dig_ext ⟨x.toNat, by omega⟩; rw [show (x + 1).toNat = x.toNat + 1 by omega]; exact this
set_option maxRecDepth 100000 in
set_option maxHeartbeats 4000000 in
theorem quote_ok (s : ByteArray) (w : World) (hs : s.size ≤ 1000000) (hv : validD s.data.toList = true) (hT : Tabs w) :
    Calls Tryz.prog 149 #[.string s] w fun e w' => e = .returned (.tuple #[.string ⟨(quoteD s.data.toList).toArray⟩, .int .i64 0]) ∧ Below w.heap.size w w' := by
 have hl : s.data.toList.length = s.size := by simp
 have cv := valid_any s w (by omega) hT; rw [hv] at cv; have Hv := Lib.hid hv; clear hv
 go_enter Tryz.func149, Tryz.ntmps149
 go_wp2_with fail
 refine cv.mono ?_; rintro en w1 ⟨rfl, hb1⟩
 go_wp2_with fail
 have hB0 : IsBuilderF 79 5 w1.heap.size w1.heap.size [] (w1.alloc (.cells #[.pointer none, .slice none 0 0] 79)) := IsBuilderF.of (Lib.fresh_isBuilder 79 5 w1); refine (wbyte_any w1.heap.size w1.heap.size [] 34 _ hB0 (by simp) (by simp)).mono ?_; rintro en w2 ⟨rfl, hI2, hb2, ho2⟩
 go_wp2_with fail
 refine (short_any w2).mono ?_; rintro en w3 ⟨rfl, rfl⟩
 go_wp2_with fail
 have hsz2 : w1.heap.size + 1 ≤ w2.heap.size := by have := hb2.size; simpa using this
 have hbw : Below w.heap.size w w2 := hb1.trans (((Below.refl _ _).alloc (by have := hb1.size; omega) _).trans (hb2.mono hb1.size)); have hI3 := bld_below hI2 (((Below.refl _ w2).alloc (Nat.le_refl _) (.map es7 7)).trans (((Below.refl w2.heap.size (w2.alloc (.map es7 7))).alloc (by simp) (.stringIter s 0)))); have hwB := hb1.size
 have hm0 : ((w2.alloc (.map es7 7)).iter s 0).heap[w2.heap.size]? = some (.map es7 7) := by
  show ((w2.heap.push _).push _)[w2.heap.size]? = _
  rw [Array.getElem?_push, if_neg (by simp)]; simp
 have hi0 : ((w2.alloc (.map es7 7)).iter s 0).heap[w2.heap.size + 1]? = some (.stringIter s 0) := by
  show ((w2.heap.push _).push _)[w2.heap.size + 1]? = _
  rw [Array.getElem?_push, if_pos (by simp)]
 have hbi : Below w.heap.size w ((w2.alloc (.map es7 7)).iter s 0) := (hbw.alloc (by omega) _).alloc (by simp; omega) _; clear cv hb2 ho2 hB0 hI2 hbw hb1
 go_loopw [] (fun wr => ∃ (pos : Nat) (acc : Bs), IsBuilderF 79 5 w1.heap.size w1.heap.size (byteCells acc) wr ∧ wr.heap[w2.heap.size]? = some (.map es7 7) ∧ wr.heap[w2.heap.size + 1]? = some (.stringIter s pos) ∧ Below w.heap.size w wr ∧ pos ≤ s.size ∧ acc.length ≤ 6 * pos + 1 ∧ Hid (acc ++ (s.data.toList.drop pos).flatMap qb = 34 :: s.data.toList.flatMap qb) ∧ Hid (validD (s.data.toList.drop pos) = true))
   (fun wr => s.size - wr.iterPos (w2.heap.size + 1))
 case atStart => exact ⟨0, [34], hI3, hm0, hi0, hbi, by omega, by simp, rfl, Hv.out⟩
 case round =>
  obtain ⟨pos, acc, hI, hm, hi, hbr, hpl, hal, hacc, hval⟩ := hrel; have hszr : w2.heap.size + 1 < wr.heap.size := (Array.getElem?_eq_some_iff.1 hi).1
  by_cases hp : pos < s.size
  · obtain ⟨r, hr1, hr2, hr3, hr4⟩ := valid_first (s.data.toList.drop pos) (by intro e; have := congrArg List.length e; simp at this; omega) hval.out
    have hd : Utf8.decode s pos = (r.toNat, (encodeRune r).length) := by rw [decode_drop]; exact next_dec _ r (by intro e; have := congrArg List.length e; simp at this; omega) hr2
    have hrb := (isRune_iff r).1 hr1; have hel := encodeRune_length r
    have hfit : pos + (encodeRune r).length ≤ s.size := by
     have := congrArg List.length hr3; simp at this; omega
    have hnx : ∀ ty, (Instr.next (.pointer (some ⟨w2.heap.size + 1, 0, none⟩)) true ty).run Tryz.prog wr = .ok (.tuple #[.bool true, .int .i64 pos, .int .i32 r]) (wr.iterAt (w2.heap.size + 1) s (pos + (encodeRune r).length)) := fun ty => by
     rw [Lib.run_next_any_at wr (w2.heap.size + 1) s pos ty hi hp, hd]; simp only [isRune_nat hr1]
    have hI1 := hI.iterAt hi (pos + (encodeRune r).length)
    have hm1 : (wr.iterAt (w2.heap.size + 1) s (pos + (encodeRune r).length)).heap[w2.heap.size]? = some (.map es7 7) := by rw [iterAt_other _ _ _ _ _ (by omega)]; exact hm
    have hi1 := Lib.iterAt_heap wr (w2.heap.size + 1) s pos (pos + (encodeRune r).length) hi; have hbr1 := Lib.below_iterAt hbr (k := w2.heap.size + 1) (by omega) s (pos + (encodeRune r).length)
    have hsz1 : w1.heap.size ≤ (wr.iterAt (w2.heap.size + 1) s (pos + (encodeRune r).length)).heap.size := by rw [Lib.iterAt_size]; omega
    have hstep : ∀ piece : Bs, (encodeRune r).flatMap qb = piece → (acc ++ piece) ++ (s.data.toList.drop (pos + (encodeRune r).length)).flatMap qb = 34 :: s.data.toList.flatMap qb := by
     intro piece hpc
     rw [← hacc.out, hr3, List.flatMap_append, hpc, List.append_assoc, List.drop_drop]
    have hval1 : validD (s.data.toList.drop (pos + (encodeRune r).length)) = true := by rw [← List.drop_drop]; exact hr4
    generalize wr.iterAt (w2.heap.size + 1) s (pos + (encodeRune r).length) = W1 at *
    have Hstep := Lib.hid hstep; have Hval1 := Lib.hid hval1; have Hr1 := Lib.hid hr1; have Hd := Lib.hid hd; clear hstep hval1 hr2 hr3 hr4 hd hr1 hacc hval
    cases hes : esc2 r with
    | some c =>
     have hlk := look_some W1 w2.heap.size r c hm1 hes
     have hcb : 0 ≤ c ∧ c < 128 := by
      unfold esc2 at hes
      repeat' split at hes
      all_goals first | (cases hes; done) | (injection hes with h; omega)
     obtain ⟨hc0, hc1⟩ := hcb
     have hen : Utf8.encode c = ⟨#[c.toNat.toUInt8]⟩ := by
      unfold Utf8.encode Utf8.valid
      simp [show c < 55296 by omega, hc0, show c.toNat < 128 by omega]
     have hz1 : (Utf8.encode c).size = 1 := by rw [hen]; rfl
     have Hen := Lib.hid hen; have Hes := Lib.hid hes; clear hes hen
     go_wp2_with fail
     refine (wstr_any w1.heap.size w1.heap.size _ _ _ hI1 (by rw [Lib.byteCells_length, ByteArray.size_append, hz1]; have h92 : (⟨#[92]⟩ : ByteArray).size = 1 := rfl; omega) hsz1).mono ?_; rintro en W2 ⟨rfl, hI2, hb2, ho2⟩
     go_wp2_with fail
     go_roundw
     case rel =>
      refine ⟨pos + (encodeRune r).length, acc ++ [92, c.toNat.toUInt8], ?_, ho2 _ _ hm1 (by simp; omega) (by intro _ _ e; cases e), ho2.iter hi1 (by omega), hbr1.trans (hb2.mono hwB), by omega, by simp; omega, Hstep.out _ (q_esc Hr1.out Hes.out), Hval1.out⟩; rw [Lib.byteCells_append]
      have : strCells (⟨#[92]⟩ ++ Utf8.encode c) = byteCells [92, c.toNat.toUInt8] := by
       rw [Hen.out, strCells_app, strCells_lit, strCells_lit]; rfl
      rw [← this]; exact hI2
     case measure =>
      simp only [World.iterPos, ho2.iter hi1 (by omega), hi]; omega
    | none =>
     have hlk := look_none W1 w2.heap.size r hm1 hes; have Hes := Lib.hid hes; clear hes
     by_cases h32 : r < 32
     · have hr0 : 0 ≤ r := by omega
       have a1 : 0 ≤ r / 16 := by omega
       have a2 : r / 16 ≤ 1 := by omega
       have a3 : 0 ≤ r % 16 := by omega
       have a4 : r % 16 < 16 := by omega
       have v1 : IntKind.i32.wrap (r / 16 + 1) = r / 16 + 1 := IntWalk.i32_in _ (by omega)
       have v2 : 0 ≤ r / 16 + 1 := by omega
       have v3 : r / 16 + 1 ≤ 16 := by omega
       have v4 : r / 16 ≤ r / 16 + 1 := by omega
       have v5 := dig_at (r / 16) a1 (by omega)
       have y0 : bits .and .i32 r 15 = r % 16 := by
        have h := and15 ⟨r.toNat, by omega⟩; simp only at h; rw [show ((r.toNat : Nat) : Int) = r by omega] at h
        rw [h]; omega
       have y1 : IntKind.i32.wrap (r % 16 + 1) = r % 16 + 1 := IntWalk.i32_in _ (by omega)
       have y2 : 0 ≤ r % 16 + 1 := by omega
       have y3 : r % 16 + 1 ≤ 16 := by omega
       have y4 : r % 16 ≤ r % 16 + 1 := by omega
       have y5 := dig_at (r % 16) a3 a4
       go_wp2_with fail
       refine wp_region_still_tail 14 (by kernel_rfl) (by kernel_rfl) ?_; simp only [List.take_succ_cons, List.take_zero, List.drop_succ_cons, List.drop_zero]
       repeat still_step
       refine wpStill_nil ?_
       go_wp2_with fail
       have hI1d : IsBuilderF 79 5 w1.heap.size w1.heap.size (byteCells acc) W1.drew := hI1; have hsz1d : w1.heap.size ≤ W1.drew.heap.size := hsz1
       have hz6 : Hid ( (({ data := #[92, 117, 48, 48] } ++ { data := #[hexd (r / 16).toNat] } ++ { data := #[hexd (r % 16).toNat] } : ByteArray)).size = 6) := by show _ = _; rw [ByteArray.size_append, ByteArray.size_append]; rfl
       refine (wstr_any w1.heap.size w1.heap.size _ _ _ hI1d ?_ hsz1d).mono ?_
       · rw [Lib.byteCells_length]; have h6 := hz6.out; omega
       rintro en W2 ⟨rfl, hI2, hb2, ho2⟩
       go_wp2_with fail
       go_roundw
       case rel =>
        refine ⟨pos + (encodeRune r).length, acc ++ [92, 117, 48, 48, hexd (r.toNat / 16), hexd (r.toNat % 16)], ?_, ho2 _ _ hm1 (by simp; omega) (by intro _ _ e; cases e), ho2.iter hi1 (by omega), hbr1.trans ((Below.refl _ _).drew.trans (hb2.mono hwB)), by omega, by simp; omega, Hstep.out _ (q_hex hr0 Hes.out h32), Hval1.out⟩; rw [Lib.byteCells_append]
        have : strCells ({ data := #[92, 117, 48, 48] } ++ { data := #[hexd (r / 16).toNat] } ++ { data := #[hexd (r % 16).toNat] }) = byteCells [92, 117, 48, 48, hexd (r.toNat / 16), hexd (r.toNat % 16)] := by
         rw [show (r / 16).toNat = r.toNat / 16 by omega, show (r % 16).toNat = r.toNat % 16 by omega, strCells_app, strCells_app, strCells_lit, strCells_lit, strCells_lit]; rfl
        rw [← this]; exact hI2
       case measure =>
        simp only [World.iterPos, ho2.iter hi1 (by omega), hi]; omega
     · go_wp2_with fail
       refine (wrune_any w1.heap.size w1.heap.size _ r (by omega) (by omega) _ hI1 (by rw [Lib.byteCells_length]; omega) hsz1).mono ?_; rintro en W2 ⟨rfl, hI2, hb2, ho2⟩
       go_wp2_with fail
       go_roundw
       case rel =>
        refine ⟨pos + (encodeRune r).length, acc ++ encodeRune r, ?_, ho2 _ _ hm1 (by simp; omega) (by intro _ _ e; cases e), ho2.iter hi1 (by omega), hbr1.trans (hb2.mono hwB), by omega, by simp; omega, Hstep.out _ (q_plain Hr1.out Hes.out (by omega)), Hval1.out⟩; rw [Lib.byteCells_append, Lib.byteCells_encodeRune]; exact hI2
       case measure =>
        simp only [World.iterPos, ho2.iter hi1 (by omega), hi]; omega
  · have hnx : ∀ ty, (Instr.next (.pointer (some ⟨w2.heap.size + 1, 0, none⟩)) true ty).run Tryz.prog wr = _ := fun ty => Lib.run_next_end_at wr (w2.heap.size + 1) s pos ty hi hp
    have hfin : acc = 34 :: s.data.toList.flatMap qb := by
     rw [← hacc.out, List.drop_of_length_le (by omega)]; simp
    have Hfin := Lib.hid hfin; clear hfin hacc hval
    go_wp2_with fail
    refine (wbyte_any w1.heap.size w1.heap.size _ 34 _ hI (by rw [Lib.byteCells_length]; omega) (by omega)).mono ?_; rintro en W2 ⟨rfl, hI2, hb2, ho2⟩
    go_wp2_with fail
    have hI3 : IsBuilderF 79 5 w1.heap.size w1.heap.size (byteCells (quoteD s.data.toList)) W2 := by
     have : byteCells (quoteD s.data.toList) = byteCells acc ++ [.int .u8 34] := by rw [Hfin.out]; simp [quoteD, byteCells]
     rw [this]; exact hI2
    refine (Tryz.Builder_String_any_k w1.heap.size w1.heap.size _ _ hI3 (by have := hb2.size; omega)).mono ?_; rintro en W3 ⟨rfl, _, hb3, _⟩
    go_wp2_with fail
    go_ret2
    exact ⟨rfl, hbr.trans ((hb2.trans hb3).mono hwB)⟩
end Go.Proofs.YthlinmkengoliaaGreatDoor
