/- Marks: the list. The library's sorted keys of a map keyed by strings: the contracts at this dump (as the kit's tool prints them). Marks: the list, whole. A number brought to be from 0 to below another one. Marks: names of partitions, lists compared, a step's answer compared. A drawn region, further: an operation that is not carried out. -/
import Derived.Test.YtoapigiapcmjnaaDoorZQb
import Derived.Test.YtoapigiapcmjnaaDoorZQc
import Derived.Deep.RegionHeldLaw
import Derived.Deep.AppendLies
import Derived.Test.YtoapigiapcmjnaaDoorShelf
import Derived.Shelf.SlIter.Nil
import Derived.Shelf.SortM.Plain
import Derived.Shelf.SortM.SortNone
set_option linter.unusedVariables false
set_option linter.unusedSimpArgs false
namespace Go.Ms
open Go.RowKit Go.Lib Go.Maps
/-- All blocks below a number but one stay. -/
structure Keep1 (base ob : Nat) (w w' : World) : Prop where
  os : w'.os = w.os
  tape : w'.tape = w.tape
  output : w'.output = w.output
  size : w.heap.size ≤ w'.heap.size
  block : ∀ k, k < base → k ≠ ob → w'.heap[k]? = w.heap[k]?
theorem Keep1.refl (base ob : Nat) (w : World) : Keep1 base ob w w := ⟨rfl, rfl, rfl, Nat.le_refl _, fun _ _ _ => rfl⟩
theorem Keep1.trans {base ob : Nat} {w w1 w2 : World} (h : Keep1 base ob w w1) (k : Keep1 base ob w1 w2) : Keep1 base ob w w2 :=
  ⟨k.os.trans h.os, k.tape.trans h.tape, k.output.trans h.output, Nat.le_trans h.size k.size, fun i hi hne => (k.block i hi hne).trans (h.block i hi hne)⟩
theorem Keep1.below {base ob : Nat} {w w' : World} (h : Below w.heap.size w w') (hb : base ≤ w.heap.size) : Keep1 base ob w w' := ⟨h.os, h.tape, h.output, h.size, fun k hk _ => h.block k (by omega)⟩
theorem Keep1.toBelow {base ob m : Nat} {w w' : World} (h : Keep1 base ob w w') (hm : m ≤ base) (ho : m ≤ ob) : Below m w w' := ⟨h.os, h.tape, h.output, h.size, fun k hk => h.block k (by omega) (by omega)⟩
theorem Keep1.put {base ob : Nat} {w w1 : World} {o : Obj} {row : Option Nat} (hg : (w.alloc o).drew.grownBy w1 row) (hr : ∀ r, row = some r → base ≤ r) (hb : base ≤ w.heap.size) (u : Value) : Keep1 base ob w (w1.setCell ⟨ob, 0, none⟩ u) := by
  refine ⟨hg.os, hg.tape, hg.output, ?_, fun k hk hne => ?_⟩
  · have := hg.size
    simp at this
    rw [World.size_setCell]
    omega
  · have e1 : w1.heap[k]? = w.heap[k]? := (hg.block k (by simp; omega) (fun e => by have := hr k e.symm; omega)).trans (Below.heap_alloc w o k (by omega))
    exact (Below.heap_setCell w1 ⟨ob, 0, none⟩ u k hne).trans e1
def mkV (l : List (ByteArray × Int)) : List Value := l.flatMap fun x => [.string x.1, .int .i64 x.2]
theorem mkV_app (a b : List (ByteArray × Int)) : mkV (a ++ b) = mkV a ++ mkV b := List.flatMap_append
theorem mkV_len (l : List (ByteArray × Int)) : (mkV l).length = l.length * 2 := by
  induction l with
  | nil => rfl
  | cons a t ih => show (_ ++ mkV t).length = _; rw [List.length_append, ih, List.length_cons]; simp; omega
end Go.Ms
namespace Go.Proofs.YtoapigiapcmjnaaDoor
open Go.RowKit Go.Ms Go.Lib Go.Maps
theorem mark_info : (Tryd.prog.info? 38).map (fun i => (i.zero, i.size, i.bytes)) = some (some (.agg #[.string ⟨#[]⟩, .int .i64 0]), 2, 24) := by kernel_rfl
theorem mk_look {H : Type} {D : DataW H} {b n : Nat} {s : ByteArray} (hs : s.size ≤ 100000) (x : World) (h : x.ownsMap Tryd.prog 9 (plainElem Tryd.prog 2) b n D) :
    (Instr.lookup 48 (.map (some b)) (.string s) false).run Tryd.prog x = .ok (.int .i64 (mkAt D s)) x := by
  obtain ⟨c, hrun, hat, -⟩ := h.lookup_int mk_law Tryd.underlying48 Tryd.underlying2 (mk_zero _) (mk_key s hs)
  rw [mkAt_of hat]
  exact hrun
set_option maxRecDepth 100000 in
set_option maxHeartbeats 3200000 in
theorem mkeach_any {H : Type} (ob mb p b n base k : Nat) (v : Value) (xs : List Value) (D : DataW H) (s : ByteArray) (w : World) (hs : s.size ≤ 100000) (hst : MkSt0 p b n D w)
    (h0 : w.heap[ob]? = some (.cells #[v] 35 (0, 0))) (h1 : w.heap[mb]? = some (.cells #[.pointer (some ⟨p, 0, none⟩)] 24 (0, 0)))
    (hown : w.ownsRow base 38 2 v k xs) (hb : base ≤ w.heap.size) (h2 : ob < base) (h3 : mb < base) (h4 : p < base) (h5 : b < base) (hk : k ≤ 100000) :
    Calls Tryd.prog 19 #[.string s, .pointer (some ⟨ob, 0, none⟩), .pointer (some ⟨mb, 0, none⟩)] w fun e w' => (∃ u, e = .returned u) ∧ ∃ v', w'.heap[ob]? = some (.cells #[v'] 35 (0, 0)) ∧
      w'.ownsRow base 38 2 v' (k + 1) (xs ++ [.string s, .int .i64 (mkAt D s)]) ∧ Keep1 base ob w w' := by
  obtain ⟨i0, hi0, hz0, hz1, hz2⟩ := info_parts mark_info
  have c0 := cell_of_block (i := 0) h0 rfl
  have c1 := cell_of_block (i := 0) h1 rfl
  have c2 := cell_of_block (i := 0) hst.box rfl
  have hL := fun x => mk_look (D := D) (b := b) (n := n) (s := s) hs x
  have a0 : v.ownBlock ≠ some ob := fun e => by have := (World.ownsRow.lt hown ob e).1; omega
  have a1 : v.ownBlock ≠ some mb := fun e => by have := (World.ownsRow.lt hown mb e).1; omega
  have a2 : v.ownBlock ≠ some p := fun e => by have := (World.ownsRow.lt hown p e).1; omega
  have a3 : v.ownBlock ≠ some b := fun e => by have := (World.ownsRow.lt hown b e).1; omega
  have f0 := frozen_of_block (i := 0) h0
  generalize mkAt D s = c at hL ⊢
  have HL := Lib.hid hL; have HM := Lib.hid hst.map; have HW := Lib.hid hown; have H0 := Lib.hid h0
  have hl0 := hL w hst.map
  clear hL hst h0 h1
  go_enter Tryd.func19, Tryd.ntmps19
  go_wp2_with fail
  have l0 := HL.out _ HM.out.drew
  have l1 := HL.out _ (HM.out.alloc (.cells #[.string s, .int .i64 c] 38)).drew
  have bn := (Below.refl _ w).alloc (Nat.le_refl _) (.cells #[.string s, .int .i64 c] 38)
  have d0 := (bn.cell (cell_lt c0)).trans c0
  have d1 := (bn.cell (cell_lt c1)).trans c1
  have d2 := (bn.cell (cell_lt c2)).trans c2
  clear bn
  go_region_law (first
    | (refine step_append_lies _ (by rfl) _ _ _ (by rfl) base 38 i0 _ 2 24 Tryd.underlying35 hi0 hz0 hz1 hz2 rfl (by omega) v k xs (by rfl) ((HW.out.alloc _).drew)
        ⟨w.heap.size, 0, none⟩ 1 1 [.string s, .int .i64 c] (by rfl) (by rfl) (World.news_of_block (cs := #[.string s, .int .i64 c]) (t := 38) (fr := (0, 0)) (heap_alloc_new w _)) (by simp [Value.oneCell'])
        (by omega) (by unfold maxLen; omega) (by omega) (by simp; omega) (w.heap.size + 1) (by simp) ?_; intro gg cap w1 hown1 hgrow hat hlt; have hB1 := (hgrow.block ob (by simp; omega) (Ne.symm a0)).trans (block_next H0.out _); have fb1 := frozen_of_block (i := 0) hB1; have cb1 := cell_of_block (i := 0) hB1 rfl; have HB1 := Lib.hid hB1; clear hB1))
  all_goals (go_end0)
  all_goals (exact ⟨⟨_, rfl⟩, _, Go.Ms.one_set HB1.out _, Go.Ms.own_set' hown1 h2 _, Keep1.put hgrow (fun r e => (World.ownsRow.lt hown r e).1) hb _⟩)
end Go.Proofs.YtoapigiapcmjnaaDoor
set_option linter.unusedSimpArgs false
namespace Go.Proofs.YtoapigiapcmjnaaDoor
open Go.RowKit Go.Maps Go.Sort Go.Shelf Go.Proofs
theorem sorts_in (m : Nat) : AnyZ.SortsIn Tryd.prog Tryd.sorted20_ren Fence.wide m :=
  ⟨fun blk off cap ss W hH hblk hsz => callsIn_wide.2 (AnyM.slices_Sort_string Tryd.sort24 blk off cap ss W hH hblk hsz),
   fun p cap W => callsIn_wide.2 (AnyM.slices_Sort_string_none Tryd.sort24 p cap W)⟩
theorem keys_call (mb : Option Nat) (W : World) : CallsIn Fence.wide 5 Tryd.prog 21 #[.map mb] W fun e w' => e = .returned (.func (.func 25) #[] #[.pointer (some ⟨W.heap.size, 0, none⟩)]) ∧ w' = W.alloc (.cells #[.map mb] 48) :=
  AnyZ.keys_in Tryd.keys21 Fence.wide 5 trivial rfl mb W
set_option maxHeartbeats 1000000 in
theorem sorted_keys {H : Type} (b nn : Nat) (D0 : DataW H) (R : Value → Option (DataW H × List MemPlace)) (w : World) (hown : w.ownsMap Tryd.prog 9 R b nn D0) (hmax : Maps.size D0 ≤ maxLen) (hbytes : Maps.size D0 * 16 ≤ 140737488355328) :
    CallsIn Fence.wide 5 Tryd.prog 20 #[.func (.func 25) #[] #[.pointer (some ⟨w.heap.size, 0, none⟩)]] (w.alloc (.cells #[.map (some b)] 48)) fun e w' => ∃ (v : Value) (ss : List (List UInt8)), e = .returned v ∧ ss.Perm (strKeys D0) ∧
      w'.ownsRow (w.alloc (.cells #[.map (some b)] 48)).heap.size 9 1 v ss.length ((ss.mergeSort (fun x y => decide (x ≤ y))).map encStr) ∧ (v = .slice none 0 0 ↔ ss = []) ∧ Below (w.alloc (.cells #[.map (some b)] 48)).heap.size (w.alloc (.cells #[.map (some b)] 48)) w' := by
  have hbl := hown.lt
  have hseq : SeqGives Fence.wide 2 Tryd.prog 25 #[.pointer (some ⟨w.heap.size, 0, none⟩)] encStr (fun ss => ss.Perm (strKeys D0)) (Maps.size D0) (w.alloc (.cells #[.map (some b)] 48)) :=
    AnyZ.keys_gives (ρ := Tryd.keys21_ren) { Tryd.keys21 with } Fence.wide _ trivial rfl (by omega) w.heap.size b nn D0 _ (by simp) (by simp) (by
      obtain ⟨es, clock, hb, Ft, hs, hD⟩ := hown
      exact ⟨es, clock, (Below.heap_alloc _ _ b hbl).trans hb, Ft, hs, hD⟩)
  exact AnyZ.sorted_in Tryd.sorted20 Fence.wide 5 trivial trivial trivial trivial rfl (by omega) (sorts_in _) (enters_of Tryd.func24 (by kernel_rfl) rfl) 25 #[.pointer (some ⟨w.heap.size, 0, none⟩)] trivial (enters_of Tryd.func25 (by kernel_rfl) rfl) _ _ hmax hbytes _ hseq
end Go.Proofs.YtoapigiapcmjnaaDoor
set_option linter.unusedSimpArgs false
namespace Go.Ms
open Go.RowKit Go.Lib Go.Maps
def mkPair {H : Type} (D : DataW H) (x : List UInt8) : ByteArray × Int := (⟨x.toArray⟩, mkAt D ⟨x.toArray⟩)
theorem mkV_snoc {H : Type} (D : DataW H) {l : List (List UInt8)} {k : Nat} {x : List UInt8} (h : l[k]? = some x) :
    mkV ((l.take (k + 1)).map (mkPair D)) = mkV ((l.take k).map (mkPair D)) ++ [.string ⟨x.toArray⟩, .int .i64 (mkAt D ⟨x.toArray⟩)] := by
  rw [List.take_add_one, h, Option.toList_some, List.map_append, mkV_app]
  rfl
theorem Keep1.grown {ob : Nat} {w w' : World} (h : Keep1 w.heap.size ob w w') : w.grownBy w' (some ob) := ⟨h.os, h.tape, h.output, h.size, fun k hk hne => h.block k hk (fun e => hne (by rw [e]))⟩
end Go.Ms
namespace Go.Proofs.YtoapigiapcmjnaaDoor
open Go.RowKit Go.Ms Go.Lib Go.Maps
set_option maxRecDepth 100000 in
set_option maxHeartbeats 1600000 in
theorem mklist_any {H : Type} (p b n : Nat) (D : DataW H) (w : World) (hst : MkSt0 p b n D w) (hn : n ≤ 1000) (hks : ∀ x ∈ strKeys D, x.length ≤ 100000) :
    Calls Tryd.prog 12 #[.pointer (some ⟨p, 0, none⟩)] w fun e w' => ∃ (v : Value) (ss : List (List UInt8)), e = .returned v ∧ ss.Perm (strKeys D) ∧
      w'.ownsRow w.heap.size 38 2 v ss.length (mkV ((ss.mergeSort leB).map (mkPair D))) ∧ Below w.heap.size w w' := by
  have hst' := Lib.hid (hst.map.tidy mk_law)
  have hsz : Maps.size D ≤ 1000 := Nat.le_trans hst.map.size_le hn
  have hp : p < w.heap.size := (Array.getElem?_eq_some_iff.1 hst.box).1
  have hb : b < w.heap.size := hst.map.lt
  obtain ⟨W0, hW0⟩ : ∃ W0, (w.alloc (.cells #[.pointer (some ⟨p, 0, none⟩)] 24)).alloc (.cells #[.slice none 0 0] 35) = W0 := ⟨_, rfl⟩
  have b0 : Below w.heap.size w W0 := by rw [← hW0]; exact ((Below.refl _ w).alloc (Nat.le_refl _) _).alloc (by rw [World.size_alloc]; omega) _
  have z0 : W0.heap.size = w.heap.size + 2 := by rw [← hW0, World.size_alloc, World.size_alloc]
  have s0 : MkSt0 p b n D W0 := hst.below b0
  have q0 : W0.heap[w.heap.size]? = some (.cells #[.pointer (some ⟨p, 0, none⟩)] 24 (0, 0)) := by rw [← hW0]; exact block_next (block_new _ _) _
  have q1 : W0.heap[w.heap.size + 1]? = some (.cells #[.slice none 0 0] 35 (0, 0)) := by
    rw [← hW0]; have := block_new (w.alloc (.cells #[.pointer (some ⟨p, 0, none⟩)] 24)) (.cells #[.slice none 0 0] 35); rwa [World.size_alloc] at this
  have cK := callsIn_wide.1 (keys_call (some b) W0)
  have cS := callsIn_wide.1 (sorted_keys b n D _ W0 s0.map (by unfold maxLen; omega) (by omega))
  have e0 := cell_of_block (i := 0) q0 rfl
  have e1 := cell_of_block (i := 0) s0.box rfl
  have HK := Lib.hid cK; have HS := Lib.hid cS; have S0 := Lib.hid s0; have B0 := Lib.hid b0; have Z0 := Lib.hid z0; have Q0 := Lib.hid q0; have Q1 := Lib.hid q1; have HP := Lib.hid hp; have HB := Lib.hid hb
  clear cK cS s0 b0 z0 q0 q1 hst hp hb
  go_enter Tryd.func12, Tryd.ntmps12
  go_wp2_with fail
  refine HK.out.mono ?_
  rintro e W1 ⟨rfl, hw1⟩
  subst hw1
  clear hW0
  go_wp2_with fail
  refine HS.out.mono ?_
  rintro e W2 ⟨vs, ss, rfl, hperm, hrow, hnil, hb2⟩
  obtain ⟨A, c, rfl, hlc, hcm⟩ := yown_slice hrow
  have bW : Below W0.heap.size W0 W2 := ((Below.refl _ W0).alloc (Nat.le_refl _) _).trans (hb2.mono (by rw [World.size_alloc]; omega))
  have hlay := Lay.of_own hrow (Nat.le_refl W2.heap.size)
  obtain ⟨L, hL⟩ : ∃ L, ss.mergeSort leB = L := ⟨_, rfl⟩
  have hLl : L.length = ss.length := by rw [← hL]; exact List.length_mergeSort _
  rw [hL] at hlay
  have hm := hrow
  have hpm : ∀ (k : Nat) x, L[k]? = some x → x.length ≤ 100000 := fun k x hx => hks x (hperm.mem_iff.1 ((List.mergeSort_perm ss leB).mem_iff.1 (by rw [hL]; exact List.mem_of_getElem? hx)))
  have hcell : ∀ (k : Nat) x, L[k]? = some x → ∃ g o, A = some ⟨g, o, none⟩ ∧ g < W2.heap.size ∧ W0.heap.size < g ∧ W2.cell? ⟨g, o + k, none⟩ = some (.string ⟨x.toArray⟩) := fun k x hx => by
    obtain ⟨g, o, e, h1, h2⟩ := hlay k (encStr x) (by rw [List.getElem?_map, hx]; rfl)
    refine ⟨g, o, e, h1, ?_, h2⟩
    have := (World.ownsRow.lt hrow g (by rw [e]; rfl)).1
    rw [World.size_alloc] at this
    omega
  have s2 := S0.out.below bW
  have r0 := block_kept Q0.out bW
  have r1 := block_kept Q1.out bW
  have hsz2 := bW.size
  have hBel := B0.out.trans (bW.mono B0.out.size)
  have hob : w.heap.size + 1 < W2.heap.size := by have := Z0.out; omega
  have HP2 := Lib.hid hperm; have HL := Lib.hid hL; have HLl := Lib.hid hLl; have HC := Lib.hid hcell; have HPM := Lib.hid hpm; have S2 := Lib.hid s2; have R0 := Lib.hid r0; have R1 := Lib.hid r1; have BE := Lib.hid hBel; have HO := Lib.hid hob; have HSZ := Lib.hid hsz2
  have hlen : ss.length ≤ 1000 := by
    have h1 := hperm.length_eq
    have h2 : (strKeys D).length = Maps.size D := by
      obtain ⟨es, e, _⟩ := hst'.out
      rw [e]; simp [strKeys, Maps.size]
    omega
  have hlcm : ss.length ≤ maxLen := by unfold maxLen; omega
  clear hrow hperm hL hLl hcell hpm s2 r0 r1 hBel hob hsz2 hlay hm hnil hb2 bW e0 e1 HK HS
  go_wp2_with fail
  go_loopw [16] (fun i wr => ∃ (k : Nat) (v' : Value), k ≤ ss.length ∧ i = .int .i64 k ∧ wr.heap[w.heap.size + 1]? = some (.cells #[v'] 35 (0, 0)) ∧ wr.ownsRow W2.heap.size 38 2 v' k (mkV ((L.take k).map (mkPair D))) ∧ Keep1 W2.heap.size (w.heap.size + 1) W2 wr) (fun i _ => ss.length - (RowKit.intOf i).toNat)
  case atStart => exact ⟨0, .slice none 0 0, Nat.zero_le _, rfl, R1.out, World.ownsRow_nil _ _ _ _, Keep1.refl _ _ _⟩
  case round =>
    obtain ⟨k, v', hk, rfl, hbx, hown, hkp⟩ := hrel
    obtain ⟨A3, c3, rfl, hc3, hc3m⟩ := yown_slice hown
    have HBX := Lib.hid hbx; have HOW := Lib.hid hown; have HKP := Lib.hid hkp
    clear hbx hown hkp
    by_cases hlk : k < ss.length
    · have hki : (k : Int) < ss.length := by omega
      obtain ⟨x, hx⟩ : ∃ x, L[k]? = some x := ⟨_, List.getElem?_eq_getElem (by rw [HLl.out]; exact hlk)⟩
      obtain ⟨g, o, rfl, hg1, hg2, hcx⟩ := HC.out k x hx
      have hblk := HKP.out.block g hg1 (by have := Z0.out; omega)
      have gx : wr.cell? ⟨g, o + k, none⟩ = some (.string ⟨x.toArray⟩) := by
        rw [← hcx]
        simp [World.cell?, hblk]
      have hst3 : MkSt0 p b n D wr := S2.out.kept HKP.out.grown (by have := HP.out; simp; omega) (by have := HB.out; simp; omega)
      have hmb := (HKP.out.block w.heap.size (by have := HO.out; omega) (by omega)).trans R0.out
      have hev := mkeach_any (w.heap.size + 1) w.heap.size p b n W2.heap.size k _ (mkV ((L.take k).map (mkPair D))) D ⟨x.toArray⟩ wr (by have := HPM.out k x hx; show x.toArray.size ≤ _; rw [List.size_toArray]; exact this) hst3 HBX.out hmb HOW.out HKP.out.size HO.out (by have := HO.out; omega) (by have := HO.out; have := HP.out; omega) (by have := HO.out; have := HB.out; omega) (by omega)
      have hsn := mkV_snoc D hx
      have HEV := Lib.hid hev; have HSN := Lib.hid hsn
      clear hev hsn hst3 hmb hblk hcx hx
      go_wp2_with fail
      refine HEV.out.mono ?_
      rintro e W3 ⟨⟨u, rfl⟩, v3, q1, q2, q3⟩
      have Q13 := Lib.hid q1; have Q23 := Lib.hid q2; have Q33 := Lib.hid (HKP.out.trans q3)
      clear q1 q2 q3
      go_wp2_with fail
      go_roundw
      case rel => exact ⟨k + 1, v3, by omega, by go_num, Q13.out, by rw [HSN.out]; exact Q23.out, Q33.out⟩
      case measure => simp [RowKit.intOf]; omega
    · have hki : ¬ (k : Int) < ss.length := by omega
      obtain rfl : k = ss.length := by omega
      have hcx : wr.cell? ⟨w.heap.size + 1, 0, none⟩ = some (.slice A3 ss.length c3) := cell_of_block (i := 0) HBX.out rfl
      have hfz := frozen_of_block (i := 0) HBX.out
      have hlt : L.take ss.length = L := List.take_of_length_le (by rw [HLl.out]; exact Nat.le_refl _)
      have hfin := HOW.out
      rw [hlt, ← HL.out] at hfin
      have HF := Lib.hid hfin
      clear hfin hlt
      go_wp2_with fail
      (try simp only [Exit.inBlock, Exit.then])
      refine bodyPost_ret (v := .slice A3 ss.length c3) (by simp [results, Tryd.results12, Tryd.f12, go_sem, hcx]) rfl ?_
      refine ⟨_, rfl, ss, HP2.out, ?_, ?_⟩
      · exact own_more (Go.Ms.own_set' HF.out HO.out _) BE.out.size
      · exact (BE.out.trans (HKP.out.toBelow (m := w.heap.size) (by have := HO.out; omega) (by omega))).setCell (p := ⟨w.heap.size + 1, 0, none⟩) (by simp only; omega) _
end Go.Proofs.YtoapigiapcmjnaaDoor
set_option linter.unusedSimpArgs false
namespace Go.Proofs.YtoapigiapcmjnaaDoor
open Go.RowKit Go.Ms Go.Lib
theorem bringI_any (i n : Int) (h0 : -9223372036854775808 ≤ i) (h1 : i ≤ 9223372036854775807) (hn : 0 < n) (hn2 : n ≤ 4611686018427387904) (w : World) :
    Calls Tryd.prog 8 #[.int .i64 i, .int .i64 n] w fun e w' => e = .returned (.int .i64 (i % n)) ∧ Below w.heap.size w w' := by
  have hz : (n == 0) = false := by simp; omega
  have hz2 : ¬ n = 0 := by omega
  have hb1 : i.tmod n < n := Int.tmod_lt_of_pos _ hn
  have hb2 : -n < i.tmod n := by
    exact Int.lt_tmod_of_pos i hn
  have hw : IntKind.i64.wrap (i.tmod n) = i.tmod n := IntWalk.i64_in _ ⟨by omega, by omega⟩
  by_cases hneg : i.tmod n < 0
  · have he : i % n = i.tmod n + n := by
      have h := Int.tmod_eq_emod (a := i) (b := n)
      split at h
      · have := Int.emod_nonneg i (b := n) (by omega); omega
      · omega
    have hw2 : IntKind.i64.wrap (i.tmod n + n) = i.tmod n + n := IntWalk.i64_in _ ⟨by omega, by omega⟩
    rw [he]
    clear he
    go_enter Tryd.func8, Tryd.ntmps8
    go_wp2_with fail
    go_ret
    exact ⟨rfl, Below.refl _ _⟩
  · have he : i % n = i.tmod n := by
      have h := Int.tmod_eq_emod (a := i) (b := n)
      split at h
      · omega
      · have := Int.emod_lt_of_pos i hn; omega
    rw [he]
    clear he
    go_enter Tryd.func8, Tryd.ntmps8
    go_wp2_with fail
    go_ret
    exact ⟨rfl, Below.refl _ _⟩
end Go.Proofs.YtoapigiapcmjnaaDoor
set_option linter.unusedSimpArgs false
namespace Go.Ms
open Go.RowKit Go.Lib Go.Maps
def mkNm (k : Nat) : ByteArray := ⟨#[112, UInt8.ofNat (97 + k)]⟩
theorem mk16 {k : Nat} (h : k < 16) : k = 0 ∨ k = 1 ∨ k = 2 ∨ k = 3 ∨ k = 4 ∨ k = 5 ∨ k = 6 ∨ k = 7 ∨ k = 8 ∨ k = 9 ∨ k = 10 ∨ k = 11 ∨ k = 12 ∨ k = 13 ∨ k = 14 ∨ k = 15 := by omega
theorem mkNm_ok {k : Nat} (h : k < 16) : isNm (mkNm k).data.toList = true ∧ (mkNm k).size = 2 := by
  rcases mk16 h with rfl | rfl | rfl | rfl | rfl | rfl | rfl | rfl | rfl | rfl | rfl | rfl | rfl | rfl | rfl | rfl <;> exact ⟨by decide +kernel, rfl⟩
theorem mkNm_up : NmUp 16 mkNm := fun i j hij hj => by
  have hi : i < 16 := by omega
  have e1 : (UInt8.ofNat (97 + i)).toNat = 97 + i := by simp; omega
  have e2 : (UInt8.ofNat (97 + j)).toNat = 97 + j := by simp; omega
  show ([112, UInt8.ofNat (97 + i)] : List UInt8) < [112, UInt8.ofNat (97 + j)]
  refine List.Lex.cons (List.Lex.rel ?_)
  rw [UInt8.lt_iff_toNat_lt, e1, e2]
  omega
theorem mkNm_cut {k : Nat} (h : k < 16) : (⟨#[112]⟩ : ByteArray) ++ (⟨#[97, 98, 99, 100, 101, 102, 103, 104, 105, 106, 107, 108, 109, 110, 111, 112]⟩ : ByteArray).extract k (k + 1) = mkNm k := by
  rcases mk16 h with rfl | rfl | rfl | rfl | rfl | rfl | rfl | rfl | rfl | rfl | rfl | rfl | rfl | rfl | rfl | rfl <;> rfl
end Go.Ms
namespace Go.Proofs.YtoapigiapcmjnaaDoor
open Go.RowKit Go.Ms Go.Lib Go.Maps
set_option maxRecDepth 100000 in
theorem mkname_any (i : Int) (k : Nat) (h0 : -9223372036854775808 ≤ i) (h1 : i ≤ 9223372036854775807) (hk : i % 16 = k) (w : World) :
    Calls Tryd.prog 10 #[.int .i64 i] w fun e w' => e = .returned (.string (mkNm k)) ∧ Below w.heap.size w w' := by
  have hk2 : k < 16 := by omega
  have hB := fun w => bringI_any i 16 h0 h1 (by omega) (by omega) w
  rw [hk] at hB
  have hc := mkNm_cut hk2
  have HB := Lib.hid hB; have HC := Lib.hid hc
  clear hB hc hk
  have i1 : (k : Int) + 1 ≤ 16 := by omega
  have i2 : (0 : Int) ≤ (k : Int) + 1 := by omega
  have i3 : (k : Int) ≤ (k : Int) + 1 := by omega
  go_enter Tryd.func10, Tryd.ntmps10
  go_wp2_with fail
  refine (HB.out _).mono ?_
  rintro e w1 ⟨rfl, b1⟩
  go_wp2_with fail
  refine (HB.out _).mono ?_
  rintro e w2 ⟨rfl, b2⟩
  go_wp2_with fail
  go_ret
  exact ⟨congrArg (fun s => Ending.returned (.string s)) HC.out, b1.trans (b2.mono b1.size)⟩
theorem mksteps_any {H : Type} (p b n : Nat) (D : DataW H) (s : ByteArray) (o : Int) (want : Bool) (er : Int) (w : World) (hs : s.size ≤ 100000) (hst : MkSt0 p b n D w) (hn : n < 1000000) :
    Calls Tryd.prog 14 #[.pointer (some ⟨p, 0, none⟩), .string s, .int .i64 o, .bool want, .int .i64 er] w fun e w' => e = .returned (.bool (decide ((mkAns D s o).1 = want ∧ (mkAns D s o).2 = er))) ∧ MkSt0 p b (n + 1) (mkNext D s o) w' ∧ w.grownBy w' (some b) := by
  have h := mkstep_any p b n D s o w hs hst hn
  have HH := Lib.hid h
  clear h hst
  generalize mkAns D s o = X at HH ⊢
  obtain ⟨x, f⟩ := X
  by_cases h1 : x = want
  · by_cases h2 : f = er
    · subst h1
      subst h2
      go_enter Tryd.func14, Tryd.ntmps14
      go_wp2_with fail
      refine HH.out.mono ?_
      rintro e w1 ⟨rfl, k1, k2⟩
      have H1 := Lib.hid k1; have H2 := Lib.hid k2
      clear k1 k2
      go_wp2_with fail
      go_ret
      exact ⟨by simp, H1.out, H2.out⟩
    · subst h1
      go_enter Tryd.func14, Tryd.ntmps14
      go_wp2_with fail
      refine HH.out.mono ?_
      rintro e w1 ⟨rfl, k1, k2⟩
      have H1 := Lib.hid k1; have H2 := Lib.hid k2
      clear k1 k2
      go_wp2_with fail
      go_ret
      exact ⟨by simp [h2], H1.out, H2.out⟩
  · go_enter Tryd.func14, Tryd.ntmps14
    go_wp2_with fail
    refine HH.out.mono ?_
    rintro e w1 ⟨rfl, k1, k2⟩
    have H1 := Lib.hid k1; have H2 := Lib.hid k2
    clear k1 k2
    go_wp2_with fail
    go_ret
    exact ⟨by simp [h1], H1.out, H2.out⟩
end Go.Proofs.YtoapigiapcmjnaaDoor
set_option linter.unusedSimpArgs false
namespace Go.Rel
open Go Go.RowKit
variable {P : Program} {md : Region.Mode} {ops : Array Oper} {a0 : Act} {w0 : World} {prs : Nat → Value → World → Prop} {o : Oper}
/-- An operation whose guard says no. -/
theorem prem_off {i : Nat} {g : Nat} {b : Bool} {gr : Ground} {d : Tmp} (k : Nat) (h1 : o.guard = some (g, b)) (h2 : o.after[k]? = some ⟨g, gr⟩) (h3 : Region.binds md ⟨g, gr⟩ = true) (h4 : dstAt ops g = some d) (h5 : prs g = isV (.bool (!b))) (hp : prs i = isV undef) : Prem P md ops a0 w0 prs i o := by
  refine ⟨by rw [hp]; exact isV_stable _, fun ev w hb hbase hc hf hg hd => ?_⟩
  have h6 := hd k _ h2 h3 d h4
  rw [h5] at h6
  have h6 : ev (.tmp d) = .bool (!b) := h6
  have : wantedEv ops ev o = false := by
    unfold wantedEv Region.wanted
    rw [h1]
    simp only [h4, h6]
    simp
  rw [this, hp]
  exact rfl
section
variable {i : Nat} {rest : List Oper}
theorem At.d {ev : Operand → Value} {w : World} (E : At md ops a0 w0 prs o ev w) (k : Nat) {e : Edge} {d : Tmp} (h1 : o.after[k]? = some e) (h2 : Region.binds md e = true) (h3 : dstAt ops e.on = some d) : prs e.on (ev (.tmp d)) w := E.dep k e h1 h2 d h3
theorem At.e {ev : Operand → Value} {w : World} (E : At md ops a0 w0 prs o ev w) (k : Nat) {e : Edge} {d : Tmp} {X : Value} (h1 : o.after[k]? = some e := by rfl) (h2 : Region.binds md e = true := by rfl) (h3 : dstAt ops e.on = some d := by rfl) (h4 : prs e.on = isV X := by rfl) : ev (.tmp d) = X := by
  have := E.dep k e h1 h2 d h3
  rw [h4] at this
  exact this
end
end Go.Rel
