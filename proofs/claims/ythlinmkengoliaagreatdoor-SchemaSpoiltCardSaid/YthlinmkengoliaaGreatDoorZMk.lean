/- Schemas: SchemaSpoilt, walked. -/
import Derived.Test.YthlinmkengoliaaGreatDoorZWc
import Derived.Test.YthlinmkengoliaaGreatDoorZWa
import Derived.Test.YthlinmkengoliaaGreatDoorZYa
import Derived.Deep.DeepCutAuto
set_option linter.unusedVariables false
set_option linter.unusedSimpArgs false
namespace Go.Ms
open Go.RowKit Go.Lib
def coC (d : Co) : Array Value := #[.int .i64 d.1, .string d.2.1, .int .i64 d.2.2.1.1, .bool d.2.2.1.2, .bool d.2.2.2.1, .int .i64 d.2.2.2.2.1, .string d.2.2.2.2.2]
structure Spd (tS tC tI : TypeId) (w : World) (sb cb g N c3 : Nat) (v2 : Value) (cs : List Co) (ks : List Int) (d : Co) (wr : World) : Prop where
  s : wr.heap[sb]? = some (.cells #[.slice (some ⟨g, 0, none⟩) N c3, v2] tS (0, 0))
  c : wr.heap[cb]? = some (.cells #[.int .i64 d.1, .string d.2.1, .int .i64 d.2.2.1.1, .bool d.2.2.1.2, .bool d.2.2.2.1, .int .i64 d.2.2.2.2.1, .string d.2.2.2.2.2] tC (0, 0))
  o1 : ∃ Bo, w.heap.size ≤ Bo ∧ OwnCo wr Bo tC (.slice (some ⟨g, 0, none⟩) N c3) cs
  o2 : ∃ Bo, w.heap.size ≤ Bo ∧ OwnI wr Bo tI v2 ks
  bel : Below w.heap.size w wr
  lt : w.heap.size ≤ sb ∧ w.heap.size ≤ cb ∧ sb ≠ cb ∧ g ≠ sb ∧ g ≠ cb
  ne : tI ≠ tS ∧ tI ≠ tC
section
variable {tS tC tI : TypeId} {w : World} {sb cb g N c3 : Nat} {v2 : Value} {cs : List Co} {ks : List Int} {d : Co} {wr : World}
theorem Spd.step {w' : World} (h : Spd tS tC tI w sb cb g N c3 v2 cs ks d wr) (hb : Below wr.heap.size wr w') : Spd tS tC tI w sb cb g N c3 v2 cs ks d w' :=
  ⟨block_kept h.s hb, block_kept h.c hb, h.o1.imp fun _ h1 => ⟨h1.1, own_below h1.2 hb⟩, h.o2.imp fun _ h1 => ⟨h1.1, own_below h1.2 hb⟩, h.bel.trans (hb.mono h.bel.size), h.lt, h.ne⟩
theorem own_not' {w : World} {B s n b : Nat} {e t : TypeId} {xs : List Value} {v : Value} {cs : Array Value} (h : w.ownsRow B e s v n xs) (hb : w.heap[b]? = some (.cells cs t (0, 0))) (hne : e ≠ t) : v.ownBlock ≠ some b := fun e1 => by
 rcases h.2 with ⟨rfl, _⟩ | ⟨g', cap', cur, rfl, _, hg, _⟩
 · cases e1
 · have : g' = b := by simpa [Value.ownBlock] using e1
   subst this; rw [hg] at hb; simp only [Option.some.injEq, Obj.cells.injEq] at hb; exact hne hb.2.1
theorem Spd.col {W' : World} {d' : Co} (h : Spd tS tC tI w sb cb g N c3 v2 cs ks d wr) (hg : wr.grownBy W' (some cb)) (hc : W'.heap[cb]? = some (.cells #[.int .i64 d'.1, .string d'.2.1, .int .i64 d'.2.2.1.1, .bool d'.2.2.1.2, .bool d'.2.2.2.1, .int .i64 d'.2.2.2.2.1, .string d'.2.2.2.2.2] tC (0, 0))) : Spd tS tC tI w sb cb g N c3 v2 cs ks d' W' := by
 have hl := h.lt; obtain ⟨B1, hB1, o1⟩ := h.o1; obtain ⟨B2, hB2, o2⟩ := h.o2; refine ⟨(hg.block _ (Array.getElem?_eq_some_iff.1 h.s).1 (fun e => by cases e; exact hl.2.2.1 rfl)).trans h.s, hc, ⟨B1, hB1, World.ownsRow.kept o1 hg (.inr (fun e => by simp [Value.ownBlock] at e; omega))⟩, ⟨B2, hB2, World.ownsRow.kept o2 hg ?_⟩, h.bel.grown hg h.bel.size (fun k e => by cases e; exact hl.2.1), h.lt, h.ne⟩; exact .inr (own_not' o2 h.c h.ne.2)
theorem Spd.keysN {W' : World} {v2' : Value} {ks' : List Int} {B' : Nat} (h : Spd tS tC tI w sb cb g N c3 v2 cs ks d wr) (hb : Below wr.heap.size wr W') (hB : w.heap.size ≤ B') (ho : OwnI W' B' tI v2' ks') : Spd tS tC tI w sb cb g N c3 v2' cs ks' d (W'.setCell ⟨sb, 1, none⟩ v2') := by
 have hl := h.lt; have h' := h.step hb; obtain ⟨B1, hB1, o1⟩ := h'.o1; have hg := grown_set' W' sb 1 v2'; exact ⟨two_set1 h'.s _, far_set h'.c (fun e => hl.2.2.1 e.symm) _, ⟨B1, hB1, World.ownsRow.kept o1 hg (.inr (fun e => by simp [Value.ownBlock] at e; omega))⟩, ⟨B', hB, World.ownsRow.kept ho hg (.inr (own_not' ho h'.s h.ne.1))⟩, h'.bel.setCell (p := ⟨sb, 1, none⟩) hl.1 _, h.lt, h.ne⟩
theorem Spd.keysA {W' : World} {v2' : Value} {k : Int} {B' : Nat} (h : Spd tS tC tI w sb cb g N c3 v2 cs ks d wr) (hne : tC ≠ tI) (ho2 : OwnI wr B' tI v2 ks) (hB : w.heap.size ≤ B') (hg : wr.grownBy W' v2.ownBlock) (ho : W'.ownsRow B' tI 1 v2' (ks.length + 1) (intV ks ++ intV [k])) : Spd tS tC tI w sb cb g N c3 v2' cs (ks ++ [k]) d (W'.setCell ⟨sb, 1, none⟩ v2') := by
 have hl := h.lt
 have ho' : OwnI W' B' tI v2' (ks ++ [k]) := by
  unfold OwnI; rw [List.length_append, intV_app]; exact ho
 obtain ⟨B1, hB1, o1⟩ := h.o1; have e1 : W'.heap[sb]? = some (.cells #[.slice (some ⟨g, 0, none⟩) N c3, v2] tS (0, 0)) := (hg.block _ (Array.getElem?_eq_some_iff.1 h.s).1 (fun e => own_not' ho2 h.s h.ne.1 e.symm)).trans h.s; have e2 : W'.heap[cb]? = _ := (hg.block _ (Array.getElem?_eq_some_iff.1 h.c).1 (fun e => own_not' ho2 h.c h.ne.2 e.symm)).trans h.c; have o1' := World.ownsRow.kept o1 hg (own_apart o1 ho2 hne); have hg2 := grown_set' W' sb 1 v2'
 exact ⟨two_set1 e1 _, far_set e2 (fun e => hl.2.2.1 e.symm) _, ⟨B1, hB1, World.ownsRow.kept o1' hg2 (.inr (fun e => by simp [Value.ownBlock] at e; omega))⟩, ⟨B', hB, World.ownsRow.kept ho' hg2 (.inr (own_not' ho' e1 h.ne.1))⟩, (own_grown ho2 h.bel h.bel.size hB hg).setCell (p := ⟨sb, 1, none⟩) hl.1 _, h.lt, h.ne⟩
theorem Spd.afterA {W' : World} {B' : Nat} (h : Spd tS tC tI w sb cb g N c3 v2 cs ks d wr) (ho2 : OwnI wr B' tI v2 ks) (hg : wr.grownBy W' v2.ownBlock) : W'.heap[sb]? = some (.cells #[.slice (some ⟨g, 0, none⟩) N c3, v2] tS (0, 0)) :=
  (hg.block _ (Array.getElem?_eq_some_iff.1 h.s).1 (fun e => own_not' ho2 h.s h.ne.1 e.symm)).trans h.s
theorem Spd.back {A2 : Option Addr} {M d2 k : Nat} (h : Spd tS tC tI w sb cb g N c3 (.slice A2 M d2) cs ks d wr) (hne : tC ≠ tI) (hk : k < cs.length) :
    ScL (((((((wr.setCell ⟨g, k * 7, none⟩ (.int .i64 d.1)).setCell ⟨g, k * 7 + 1, none⟩ (.string d.2.1)).setCell ⟨g, k * 7 + 2, none⟩ (.int .i64 d.2.2.1.1)).setCell ⟨g, k * 7 + 3, none⟩ (.bool d.2.2.1.2)).setCell ⟨g, k * 7 + 4, none⟩ (.bool d.2.2.2.1)).setCell ⟨g, k * 7 + 5, none⟩ (.int .i64 d.2.2.2.2.1)).setCell ⟨g, k * 7 + 6, none⟩ (.string d.2.2.2.2.2)) (some ⟨g, 0, none⟩) A2 (cs.set k d) ks ∧
    (((((((wr.setCell ⟨g, k * 7, none⟩ (.int .i64 d.1)).setCell ⟨g, k * 7 + 1, none⟩ (.string d.2.1)).setCell ⟨g, k * 7 + 2, none⟩ (.int .i64 d.2.2.1.1)).setCell ⟨g, k * 7 + 3, none⟩ (.bool d.2.2.1.2)).setCell ⟨g, k * 7 + 4, none⟩ (.bool d.2.2.2.1)).setCell ⟨g, k * 7 + 5, none⟩ (.int .i64 d.2.2.2.2.1)).setCell ⟨g, k * 7 + 6, none⟩ (.string d.2.2.2.2.2)).heap[sb]? = some (.cells #[.slice (some ⟨g, 0, none⟩) N c3, .slice A2 M d2] tS (0, 0)) ∧
    Below w.heap.size w (((((((wr.setCell ⟨g, k * 7, none⟩ (.int .i64 d.1)).setCell ⟨g, k * 7 + 1, none⟩ (.string d.2.1)).setCell ⟨g, k * 7 + 2, none⟩ (.int .i64 d.2.2.1.1)).setCell ⟨g, k * 7 + 3, none⟩ (.bool d.2.2.1.2)).setCell ⟨g, k * 7 + 4, none⟩ (.bool d.2.2.2.1)).setCell ⟨g, k * 7 + 5, none⟩ (.int .i64 d.2.2.2.2.1)).setCell ⟨g, k * 7 + 6, none⟩ (.string d.2.2.2.2.2)) ∧ M = ks.length := by
 have hl := h.lt; obtain ⟨B1, hB1, o1⟩ := h.o1; obtain ⟨B2, hB2, o2⟩ := h.o2; have hg := grown7 wr g (k * 7) (.int .i64 d.1) (.string d.2.1) (.int .i64 d.2.2.1.1) (.bool d.2.2.1.2) (.bool d.2.2.2.1) (.int .i64 d.2.2.2.2.1) (.string d.2.2.2.2.2); have hgb := (World.ownsRow.lt o1 g rfl).1
 have o2' : OwnI _ B2 tI (.slice A2 M d2) ks := World.ownsRow.kept o2 hg (by
   have := own_apart o2 o1 (Ne.symm hne)
   simpa [Value.ownBlock] using this)
 refine ⟨ScL.own (own_put o1 hk d) o2', (hg.block _ (Array.getElem?_eq_some_iff.1 h.s).1 (fun e => by cases e; omega)).trans h.s, h.bel.grown hg h.bel.size (fun k e => by cases e; omega), o2.lay.1⟩
end
theorem md_seven' {w : World} {b : Nat} {v0 v1 v2 v3 v4 v5 v6 : Value} {T : TypeId} (h : w.heap[b]? = some (.cells #[v0, v1, v2, v3, v4, v5, v6] T (0, 0))) (x : Value) :
    (w.setCell ⟨b, 0, none⟩ x).heap[b]? = some (.cells #[x, v1, v2, v3, v4, v5, v6] T (0, 0)) ∧ (w.setCell ⟨b, 1, none⟩ x).heap[b]? = some (.cells #[v0, x, v2, v3, v4, v5, v6] T (0, 0)) ∧ (w.setCell ⟨b, 2, none⟩ x).heap[b]? = some (.cells #[v0, v1, x, v3, v4, v5, v6] T (0, 0)) ∧ (w.setCell ⟨b, 3, none⟩ x).heap[b]? = some (.cells #[v0, v1, v2, x, v4, v5, v6] T (0, 0)) ∧
    (w.setCell ⟨b, 4, none⟩ x).heap[b]? = some (.cells #[v0, v1, v2, v3, x, v5, v6] T (0, 0)) ∧ (w.setCell ⟨b, 5, none⟩ x).heap[b]? = some (.cells #[v0, v1, v2, v3, v4, x, v6] T (0, 0)) ∧ (w.setCell ⟨b, 6, none⟩ x).heap[b]? = some (.cells #[v0, v1, v2, v3, v4, v5, x] T (0, 0)) := by
 refine ⟨?_, ?_, ?_, ?_, ?_, ?_, ?_⟩ <;> simp [World.setCell, Array.getElem?_modify, h]
theorem seven_three' {w : World} {b : Nat} {v0 v1 v2 v3 v4 v5 v6 : Value} {T : TypeId} (h : w.heap[b]? = some (.cells #[v0, v1, v2, v3, v4, v5, v6] T (0, 0))) (x4 x5 x6 : Value) :
    (((w.setCell ⟨b, 4, none⟩ x4).setCell ⟨b, 5, none⟩ x5).setCell ⟨b, 6, none⟩ x6).heap[b]? = some (.cells #[v0, v1, v2, v3, x4, x5, x6] T (0, 0)) := by
 simp [World.setCell, Array.getElem?_modify, h]
theorem grown_new {w w1 w2 : World} {B : Nat} (hB : B ≤ w.heap.size) (hb : Below w.heap.size w w1) (hg : w1.grownBy w2 (Value.slice (some ⟨w.heap.size, 0, none⟩) 1 1).ownBlock) : Below w.heap.size w w2 :=
  hb.grown hg hb.size (fun k e => by have : w.heap.size = k := by simpa [Value.ownBlock] using e
                                     omega)
def badId (b : Nat) : Int := if b = 0 then 0 else if b = 1 then -1 else if b = 2 then 1048577 else if b = 3 then -9223372036854775808 else 9223372036854775807
theorem badId_at (b : Nat) (h : b < 5) : (#[Value.int .i64 0, .int .i64 (-1), .int .i64 1048577, .int .i64 (-9223372036854775808), .int .i64 9223372036854775807] : Array Value)[b]? = some (.int .i64 (badId b)) ∧ ¬ (1 ≤ badId b ∧ badId b ≤ 1048576) := by
 have : b = 0 ∨ b = 1 ∨ b = 2 ∨ b = 3 ∨ b = 4 := by omega
 rcases this with rfl | rfl | rfl | rfl | rfl <;> exact ⟨rfl, by decide⟩
def badNm (b : Nat) : ByteArray := if b = 0 then ⟨#[]⟩ else if b = 1 then ⟨#[65]⟩ else if b = 2 then ⟨#[49]⟩ else if b = 3 then ⟨#[97, 32, 98]⟩ else if b = 4 then ⟨#[95, 97]⟩ else if b = 5 then ⟨#[97, 10]⟩ else ⟨#[97, 98, 99, 100, 101, 102, 103, 104, 105, 106, 107, 108, 109, 110, 111, 112, 113, 114, 115, 116, 117, 118, 119, 120, 121, 122, 97, 98, 99, 100, 101, 102, 103]⟩
theorem badNm_at (b : Nat) (h : b < 7) : (#[Value.string ⟨#[]⟩, .string ⟨#[65]⟩, .string ⟨#[49]⟩, .string ⟨#[97, 32, 98]⟩, .string ⟨#[95, 97]⟩, .string ⟨#[97, 10]⟩, .string ⟨#[97, 98, 99, 100, 101, 102, 103, 104, 105, 106, 107, 108, 109, 110, 111, 112, 113, 114, 115, 116, 117, 118, 119, 120, 121, 122, 97, 98, 99, 100, 101, 102, 103]⟩] : Array Value)[b]? = some (.string (badNm b)) ∧ isNm (badNm b).data.toList = false ∧ (badNm b).size ≤ 100000 := by
 have : b = 0 ∨ b = 1 ∨ b = 2 ∨ b = 3 ∨ b = 4 ∨ b = 5 ∨ b = 6 := by omega
 rcases this with rfl | rfl | rfl | rfl | rfl | rfl | rfl <;> exact ⟨rfl, by decide +kernel, by decide⟩
def badKd (b : Nat) : Int := if b = 0 then 0 else if b = 1 then 6 else if b = 2 then -1 else 9223372036854775807
theorem badKd_at (b : Nat) (h : b < 4) : (#[Value.int .i64 0, .int .i64 6, .int .i64 (-1), .int .i64 9223372036854775807] : Array Value)[b]? = some (.int .i64 (badKd b)) ∧ ¬ (1 ≤ badKd b ∧ badKd b ≤ 5) := by
 have : b = 0 ∨ b = 1 ∨ b = 2 ∨ b = 3 := by omega
 rcases this with rfl | rfl | rfl | rfl <;> exact ⟨rfl, by decide⟩
end Go.Ms
namespace Go.Proofs.YthlinmkengoliaaGreatDoor
open Go.RowKit Go.Ms Go.Lib
set_option maxRecDepth 100000 in
set_option maxHeartbeats 16000000 in
theorem schemaSpoilt_walk (A : Option Addr) (n c : Nat) (l : List Sd5) (q : Int) (v at' : Int) (w : World) (hc : n ≤ c) (kc : c ≤ maxLen) (ll : l.length = n) (ex : Ext w w.heap.size A (sdL l)) (ok : ∀ x ∈ l, SdIn x) (hq : I64 q) (hv : (Lit.int .i64 v).wf = true) (ha : (Lit.int .i64 at').wf = true) (hE : Env w) :
    Calls Tryz.prog 8 #[.agg #[.slice A n c, .int .i64 q], .int .i64 v, .int .i64 at'] w fun e w' => e = .returned (.bool true) ∧ Below w.heap.size w w' := by
 obtain ⟨ii, ki, kz0, kz1, kz2⟩ := info_parts int_info; obtain ⟨cs, ks, hm⟩ : ∃ cs ks, sdMade l q = (cs, ks) := ⟨_, _, rfl⟩; have so := seed_ok hm
 have hmd := fun w1 (h : Below w.heap.size w w1) => made_is (w := w1) hm hc kc ll ((ex.keep h).more h.size) ok hq
 obtain ⟨N, hN⟩ : ∃ N, cs.length = N := ⟨_, rfl⟩; obtain ⟨M, hM⟩ : ∃ M, ks.length = M := ⟨_, rfl⟩
 have hz : 1 ≤ N ∧ N ≤ 16 ∧ M ≤ 8 := by have := so.ok.one; have := so.most; have := so.keys; omega
 have hvb := I64.of hv; have hab := I64.of ha
 have hbn := fun wq => bringI_any at' N hab.1 hab.2 (by omega) (by omega) wq
 obtain ⟨k, hk⟩ : ∃ k : Nat, at' % (N : Int) = (k : Int) := ⟨(at' % (N : Int)).toNat, by have := Int.emod_nonneg at' (b := (N : Int)) (by omega); omega⟩
 have hkN : k < N := by have := Int.emod_lt_of_pos at' (b := (N : Int)) (by omega); omega
 rw [hk] at hbn
 have hbm := fun wq => bringI_any v 12 hvb.1 hvb.2 (by omega) (by omega) wq
 obtain ⟨mm, hmm⟩ : ∃ mm, v % 12 = mm := ⟨_, rfl⟩
 have hmb : 0 ≤ mm ∧ mm < 12 := by omega
 rw [hmm] at hbm
 have hb5 := fun wq => bringI_any at' 5 hab.1 hab.2 (by omega) (by omega) wq
 obtain ⟨b5, hbb5⟩ : ∃ b : Nat, at' % 5 = (b : Int) := ⟨(at' % 5).toNat, by omega⟩
 have hl5 : b5 < 5 := by omega
 rw [hbb5] at hb5
 have hb7 := fun wq => bringI_any at' 7 hab.1 hab.2 (by omega) (by omega) wq
 obtain ⟨b7, hbb7⟩ : ∃ b : Nat, at' % 7 = (b : Int) := ⟨(at' % 7).toNat, by omega⟩
 have hl7 : b7 < 7 := by omega
 rw [hbb7] at hb7
 have hb4 := fun wq => bringI_any at' 4 hab.1 hab.2 (by omega) (by omega) wq
 obtain ⟨b4, hbb4⟩ : ∃ b : Nat, at' % 4 = (b : Int) := ⟨(at' % 4).toNat, by omega⟩
 have hl4 : b4 < 4 := by omega
 rw [hbb4] at hb4; obtain ⟨cc, hcc⟩ : ∃ c, cs[k]? = some c := ⟨_, List.getElem?_eq_getElem (by omega)⟩; have hcz := so.sizes cc (List.mem_of_getElem? hcc)
 have hset : cs.set k cc = cs := by
  obtain ⟨h1, h2⟩ := List.getElem?_eq_some_iff.1 hcc
  rw [← h2]; exact List.set_getElem_self h1
 obtain ⟨j, hj⟩ : ∃ j : Nat, ((k : Int) + 1).tmod (N : Int) = (j : Int) := ⟨(((k : Int) + 1).tmod (N : Int)).toNat, by have := Int.tmod_nonneg (N : Int) (show (0 : Int) ≤ (k : Int) + 1 by omega); omega⟩
 have hjN : j < N := by have := Int.tmod_lt_of_pos ((k : Int) + 1) (b := (N : Int)) (by omega); omega
 have hjk : N ≠ 1 → j ≠ k := by
  intro h1 e
  rw [Int.tmod_eq_emod_of_nonneg (by omega)] at hj
  by_cases h2 : k + 1 < N
  · rw [Int.emod_eq_of_lt (by omega) (by omega)] at hj; omega
  · have : (k : Int) + 1 = N := by omega
    rw [this, Int.emod_self] at hj; omega
 obtain ⟨ee, hee⟩ : ∃ c, cs[j]? = some c := ⟨_, List.getElem?_eq_getElem (by omega)⟩; have hez := so.sizes ee (List.mem_of_getElem? hee); rw [hN, hM] at hmd; have hb0 : Below w.heap.size w (w.alloc (.cells #[.slice A n c, .int .i64 q] 24)) := (Below.refl _ w).alloc (Nat.le_refl _) _; have q0 := block_new w (.cells #[.slice A n c, .int .i64 q] 24); have y0 := cell_of_block (i := 0) q0 rfl; have y1 := cell_of_block (i := 1) q0 rfl; obtain ⟨i0, s0, ⟨k0, u0⟩, n0, m0, t0⟩ := cc; obtain ⟨i1, s1, ⟨k1, u1⟩, n1, m1, t1⟩ := ee
 have HMD := Lib.hid hmd; have HBN := Lib.hid hbn; have HBM := Lib.hid hbm; have HB5 := Lib.hid hb5; have HB7 := Lib.hid hb7; have HB4 := Lib.hid hb4; have HE := Lib.hid hE; have B0 := Lib.hid hb0; have SO := Lib.hid so; have HN := Lib.hid hN; have HM := Lib.hid hM; have HZ := Lib.hid hz; have HCC := Lib.hid hcc; have HCZ := Lib.hid hcz; have HSET := Lib.hid hset; have HJ := Lib.hid hj; have HJN := Lib.hid hjN; have HJK := Lib.hid hjk; have HEE := Lib.hid hee; have HEZ := Lib.hid hez; have HKN := Lib.hid hkN; have HL5 := Lib.hid hl5; have HL7 := Lib.hid hl7; have HL4 := Lib.hid hl4; have HMB := Lib.hid hmb
 clear hmd hbn hbm hb5 hb7 hb4 hE hb0 q0 so hm hc kc ll ex ok hq hN hM hz hv ha hvb hab hk hmm hbb5 hbb7 hbb4 hcc hcz hset hj hjN hjk hee hez hkN hl5 hl7 hl4 hmb
 go_enter Tryz.func8, Tryz.ntmps8
 go_wp2_with fail
 refine (HMD.out _ B0.out).mono ?_; rintro en w2 ⟨A3, c3, K3, d3, rfl, o1, o2, b2⟩
 obtain ⟨g, rfl⟩ : ∃ g, A3 = some ⟨g, 0, none⟩ := by
  rcases o1.2 with ⟨_, h0⟩ | ⟨g, cap', cur, hv, _⟩
  · have := HN.out; have := HZ.out; omega
  · injection hv with h1; exact ⟨g, h1⟩
 have hgl := (World.ownsRow.lt o1 g rfl).2; obtain ⟨X, hX⟩ : ∃ X, X = w2.alloc (.cells #[.slice (some ⟨g, 0, none⟩) N c3, .slice K3 M d3] 28) := ⟨_, rfl⟩
 have bx : Below w2.heap.size w2 X := by rw [hX]; exact (Below.refl _ _).alloc (Nat.le_refl _) _
 have q3 : X.heap[w2.heap.size]? = some (.cells #[.slice (some ⟨g, 0, none⟩) N c3, .slice K3 M d3] 28 (0, 0)) := by rw [hX]; exact block_new _ _
 have B2 := Lib.hid ((B0.out.trans (b2.mono B0.out.size)).trans (bx.mono (B0.out.trans (b2.mono B0.out.size)).size)); have O1 := Lib.hid (own_below o1 bx); have O2 := Lib.hid (own_below o2 bx); have Q3 := Lib.hid q3
 have hBo : w.heap.size ≤ (w.alloc (.cells #[.slice A n c, .int .i64 q] 24)).heap.size := by rw [World.size_alloc]; omega
 have hsb : w.heap.size ≤ w2.heap.size := Nat.le_trans hBo b2.size; clear b2 bx o1 o2 y0 y1 B0 q3
 go_upto_region 2 with fail
 rw [← hX]
 generalize (w.alloc (.cells #[.slice A n c, .int .i64 q] 24)).heap.size = Bo at O1 O2 hBo
 generalize w2.heap.size = sb at Q3 hgl hsb ⊢
 clear hX; have y0 := cell_of_block (i := 0) Q3.out rfl; have hkn := HKN.out
 go_wp2_with fail
 refine (HBN.out _).mono ?_; rintro en w4 ⟨rfl, b4⟩
 have o14 : OwnCo w4 Bo 37 (.slice (some ⟨g, 0, none⟩) N c3) cs := by
  have := own_below O1.out b4; unfold OwnCo; rw [HN.out] at this ⊢; exact this
 have o24 : OwnI w4 Bo 3 (.slice K3 M d3) ks := by
  have := own_below O2.out b4; unfold OwnI; rw [HM.out] at this ⊢; exact this
 have B4 := Lib.hid (B2.out.trans (b4.mono B2.out.size)); have Q4 := Lib.hid (block_kept Q3.out b4)
 have hsb4 : sb < w4.heap.size := (Array.getElem?_eq_some_iff.1 Q4.out).1; have hOO := own_co o14 HCC.out; clear b4 y0 B2 Q3 O1 O2; obtain ⟨e0, e1, e2, e3, e4, e5, e6, _⟩ := hOO; simp only at e0 e1 e2 e3 e4 e5 e6; have y0 := cell_of_block (i := 0) Q4.out rfl
 have l1 : (k : Int) < (N : Int) := by omega
 have hs4 : Spd 28 37 3 w sb w4.heap.size g N c3 (.slice K3 M d3) cs ks (i0, s0, (k0, u0), n0, m0, t0) (w4.alloc (.cells #[.int .i64 i0, .string s0, .int .i64 k0, .bool u0, .bool n0, .int .i64 m0, .string t0] 37)) :=
   ⟨block_next Q4.out _, block_new _ _, ⟨Bo, hBo, own_below o14 ((Below.refl _ _).alloc (Nat.le_refl _) _)⟩, ⟨Bo, hBo, own_below o24 ((Below.refl _ _).alloc (Nat.le_refl _) _)⟩, B4.out.alloc B4.out.size _, ⟨hsb, B4.out.size, by omega, by omega, by omega⟩, ⟨by decide, by decide⟩⟩
 have HS4 := Lib.hid hs4; clear hs4 o14 o24 B4 Q4
 go_upto_region 4 with fail
 generalize w4.alloc (.cells #[.int .i64 i0, .string s0, .int .i64 k0, .bool u0, .bool n0, .int .i64 m0, .string t0] 37) = X4 at HS4 ⊢
 generalize w4.heap.size = cb at HS4 hsb4 ⊢
 clear e0 e1 e2 e3 e4 e5 e6 y0 hgl hsb hBo hsb4
 go_wp2_with fail
 refine (HBM.out _).mono ?_; rintro en w5 ⟨rfl, b5⟩; have HS := Lib.hid (HS4.out.step b5); clear b5 HS4
 go_upto_if 28 with fail
 refine wp_inblock ?_
 go_cut [28] (fun s28 wx => (∃ (A2 : Option Addr) (d2 M2 : Nat) (kz : List Int) (d : Co), Spd 28 37 3 w sb cb g N c3 (.slice A2 M2 d2) cs kz d wx ∧ kz.length ≤ 20 ∧ (d.2.1.size ≤ 100000 ∧ d.2.2.2.2.2.size ≤ 100000) ∧ ¬ ScOk (cs.set k d) kz) ∨ (wx.heap[sb]? = some (.cells #[.slice none 0 0, .slice none 0 0] 28 (0, 0)) ∧ Below w.heap.size w wx))
 case first =>
  have hm12 : mm = 0 ∨ mm = 1 ∨ mm = 2 ∨ mm = 3 ∨ mm = 4 ∨ mm = 5 ∨ mm = 6 ∨ mm = 7 ∨ mm = 8 ∨ mm = 9 ∨ mm = 10 ∨ mm = 11 := by have := HMB.out; omega
  have hkn := HKN.out
  have l1 : (k : Int) < (N : Int) := by omega
  rcases hm12 with e | e | e | e | e | e | e | e | e | e | e | e
  · have tt0 : (mm == 0) = true := by rw [e]; rfl
    clear e; have x0 := cell_of_block (i := 0) HS.out.s rfl; have x1 := cell_of_block (i := 1) HS.out.s rfl; have fx0 := frozen_of_block (i := 0) HS.out.s; have fx1 := frozen_of_block (i := 1) HS.out.s; have y0 := cell_of_block (i := 0) HS.out.c rfl; have fy0 := frozen_of_block (i := 0) HS.out.c; have y1 := cell_of_block (i := 1) HS.out.c rfl; have fy1 := frozen_of_block (i := 1) HS.out.c; have y2 := cell_of_block (i := 2) HS.out.c rfl; have fy2 := frozen_of_block (i := 2) HS.out.c; have y3 := cell_of_block (i := 3) HS.out.c rfl; have fy3 := frozen_of_block (i := 3) HS.out.c
    have y4 := cell_of_block (i := 4) HS.out.c rfl; have fy4 := frozen_of_block (i := 4) HS.out.c; have y5 := cell_of_block (i := 5) HS.out.c rfl; have fy5 := frozen_of_block (i := 5) HS.out.c; have y6 := cell_of_block (i := 6) HS.out.c rfl; have fy6 := frozen_of_block (i := 6) HS.out.c; have ha5 : Below w5.heap.size w5 (w5.alloc (.cells #[.int .i64 0, .int .i64 (-1), .int .i64 1048577, .int .i64 (-9223372036854775808), .int .i64 9223372036854775807] 3)) := (Below.refl _ _).alloc (Nat.le_refl _) _
    go_wp2_with fail
    refine (HB5.out _).mono ?_; rintro en w6 ⟨rfl, b6⟩; have H6 := Lib.hid ((HS.out.step ha5).step b6); have hlt := HL5.out; have zz := cell_of_block (i := b5) (block_kept (block_new w5 (.cells #[.int .i64 0, .int .i64 (-1), .int .i64 1048577, .int .i64 (-9223372036854775808), .int .i64 9223372036854775807] 3)) b6) (badId_at b5 hlt).1; clear x0 x1 fx0 fx1 y0 fy0 y1 fy1 y2 fy2 y3 fy3 y4 fy4 y5 fy5 y6 fy6 b6 ha5; have x0 := cell_of_block (i := 0) H6.out.s rfl; have x1 := cell_of_block (i := 1) H6.out.s rfl; have fx0 := frozen_of_block (i := 0) H6.out.s; have fx1 := frozen_of_block (i := 1) H6.out.s
    have y0 := cell_of_block (i := 0) H6.out.c rfl; have fy0 := frozen_of_block (i := 0) H6.out.c; have y1 := cell_of_block (i := 1) H6.out.c rfl; have fy1 := frozen_of_block (i := 1) H6.out.c; have y2 := cell_of_block (i := 2) H6.out.c rfl; have fy2 := frozen_of_block (i := 2) H6.out.c; have y3 := cell_of_block (i := 3) H6.out.c rfl; have fy3 := frozen_of_block (i := 3) H6.out.c; have y4 := cell_of_block (i := 4) H6.out.c rfl; have fy4 := frozen_of_block (i := 4) H6.out.c; have y5 := cell_of_block (i := 5) H6.out.c rfl; have fy5 := frozen_of_block (i := 5) H6.out.c
    have y6 := cell_of_block (i := 6) H6.out.c rfl; have fy6 := frozen_of_block (i := 6) H6.out.c
    have lz : (b5 : Int) < 5 := by omega
    have lz2 : decide ((b5 : Int) < 5) = true := by simp; omega
    go_wp2_with fail
    go_meet
    have hd := H6.out.col (d' := (badId b5, s0, (k0, u0), n0, m0, t0)) (grown_set' w6 cb 0 _) (md_seven' H6.out.c _).1; refine .inl ⟨K3, d3, M, ks, _, hd, by have := SO.out.keys; omega, HCZ.out, bad_id HCC.out (badId_at b5 HL5.out).2⟩
  · have tt0 : (mm == 0) = false := by rw [e]; rfl
    have tt1 : (mm == 1) = true := by rw [e]; rfl
    clear e; have x0 := cell_of_block (i := 0) HS.out.s rfl; have x1 := cell_of_block (i := 1) HS.out.s rfl; have fx0 := frozen_of_block (i := 0) HS.out.s; have fx1 := frozen_of_block (i := 1) HS.out.s; have y0 := cell_of_block (i := 0) HS.out.c rfl; have fy0 := frozen_of_block (i := 0) HS.out.c; have y1 := cell_of_block (i := 1) HS.out.c rfl; have fy1 := frozen_of_block (i := 1) HS.out.c; have y2 := cell_of_block (i := 2) HS.out.c rfl; have fy2 := frozen_of_block (i := 2) HS.out.c; have y3 := cell_of_block (i := 3) HS.out.c rfl; have fy3 := frozen_of_block (i := 3) HS.out.c
    have y4 := cell_of_block (i := 4) HS.out.c rfl; have fy4 := frozen_of_block (i := 4) HS.out.c; have y5 := cell_of_block (i := 5) HS.out.c rfl; have fy5 := frozen_of_block (i := 5) HS.out.c; have y6 := cell_of_block (i := 6) HS.out.c rfl; have fy6 := frozen_of_block (i := 6) HS.out.c; have hjn := HJN.out; have hj := HJ.out; have hz := HZ.out; have vk : IntKind.i64.wrap ((k : Int) + 1) = (k : Int) + 1 := IntWalk.i64_in _ (by omega)
    have vj : IntKind.i64.wrap (((k : Int) + 1).tmod (N : Int)) = (j : Int) := by rw [hj]; exact IntWalk.i64_in _ (by omega)
    have lj : (j : Int) < (N : Int) := by omega
    have hN0 : ((N : Int) == 0) = false := by rw [beq_eq_false_iff_ne]; omega
    have hN1 : ¬ (N : Int) = 0 := by omega
    have hN2 : ¬ N = 0 := by omega
    obtain ⟨Bo1, _, ho1⟩ := HS.out.o1; obtain ⟨z0, z1, _⟩ := own_co ho1 HEE.out; simp only at z0 z1; have hdr : Below w5.heap.size w5 w5.drew := ms_drewN (Below.refl _ w5) 1; have HD := Lib.hid (HS.out.step hdr); clear ho1 hdr; have hd := HD.out.col (d' := (i1, s0, (k0, u0), n0, m0, t0)) (grown_set' w5.drew cb 0 _) (md_seven' HD.out.c _).1; have HD1 := Lib.hid hd; clear hd
    go_upto_region 10 with fail
    go_cut [28, 36] (fun s28 s36 wx => Spd 28 37 3 w sb cb g N c3 (.slice K3 M d3) cs ks (i1, s0, (k0, u0), n0, m0, t0) wx)
    case first =>
     go_region_with fail
     all_goals go_wp2_with fail
     all_goals
      go_meet
      exact HD1.out
    case rest =>
     clear z0 z1 x0 x1 fx0 fx1 y0 fy0 y1 fy1 y2 fy2 y3 fy3 y4 fy4 y5 fy5 y6 fy6 HD HD1 HS; have HQ := Lib.hid hcut; clear hcut; have gx0 := cell_of_block (i := 0) HQ.out.s rfl; have gf := frozen_of_block (i := 0) HQ.out.c; have gy := cell_of_block (i := 0) HQ.out.c rfl
     by_cases h1 : N = 1
     · have q1 : ((N : Int) == 1) = true := by rw [beq_iff_eq]; omega
       have q2 : (N : Int) = 1 := by omega
       have H1 := Lib.hid h1; clear h1
       go_wp2_with fail
       go_meet
       have hd := HQ.out.col (d' := (0, s0, (k0, u0), n0, m0, t0)) (grown_set' _ cb 0 _) (md_seven' HQ.out.c _).1; exact .inl ⟨K3, d3, M, ks, (0, s0, (k0, u0), n0, m0, t0), hd, by have := SO.out.keys; omega, HCZ.out, bad_id HCC.out (fun h => by have h1 : (1 : Int) ≤ 0 := h.1; omega)⟩
     · have q1 : ((N : Int) == 1) = false := by rw [beq_eq_false_iff_ne]; omega
       have q2 : ¬ (N : Int) = 1 := by omega
       have q3 : ¬ N = 1 := h1; have H1 := Lib.hid h1; clear h1
       go_wp2_with fail
       go_meet
       exact .inl ⟨K3, d3, M, ks, (i1, s0, (k0, u0), n0, m0, t0), HQ.out, by have := SO.out.keys; omega, HCZ.out, bad_ids HCC.out HEE.out (HJK.out H1.out) rfl⟩
  · have tt0 : (mm == 0) = false := by rw [e]; rfl
    have tt1 : (mm == 1) = false := by rw [e]; rfl
    have tt2 : (mm == 2) = true := by rw [e]; rfl
    clear e; have x0 := cell_of_block (i := 0) HS.out.s rfl; have x1 := cell_of_block (i := 1) HS.out.s rfl; have fx0 := frozen_of_block (i := 0) HS.out.s; have fx1 := frozen_of_block (i := 1) HS.out.s; have y0 := cell_of_block (i := 0) HS.out.c rfl; have fy0 := frozen_of_block (i := 0) HS.out.c; have y1 := cell_of_block (i := 1) HS.out.c rfl; have fy1 := frozen_of_block (i := 1) HS.out.c; have y2 := cell_of_block (i := 2) HS.out.c rfl; have fy2 := frozen_of_block (i := 2) HS.out.c; have y3 := cell_of_block (i := 3) HS.out.c rfl; have fy3 := frozen_of_block (i := 3) HS.out.c
    have y4 := cell_of_block (i := 4) HS.out.c rfl; have fy4 := frozen_of_block (i := 4) HS.out.c; have y5 := cell_of_block (i := 5) HS.out.c rfl; have fy5 := frozen_of_block (i := 5) HS.out.c; have y6 := cell_of_block (i := 6) HS.out.c rfl; have fy6 := frozen_of_block (i := 6) HS.out.c
    have ha5 : Below w5.heap.size w5 (w5.alloc (.cells #[.string ⟨#[]⟩, .string ⟨#[65]⟩, .string ⟨#[49]⟩, .string ⟨#[97, 32, 98]⟩, .string ⟨#[95, 97]⟩, .string ⟨#[97, 10]⟩, .string ⟨#[97, 98, 99, 100, 101, 102, 103, 104, 105, 106, 107, 108, 109, 110, 111, 112, 113, 114, 115, 116, 117, 118, 119, 120, 121, 122, 97, 98, 99, 100, 101, 102, 103]⟩] 9)) := (Below.refl _ _).alloc (Nat.le_refl _) _
    go_wp2_with fail
    refine (HB7.out _).mono ?_; rintro en w6 ⟨rfl, b6⟩; have H6 := Lib.hid ((HS.out.step ha5).step b6); have hlt := HL7.out; have zz := cell_of_block (i := b7) (block_kept (block_new w5 (.cells #[.string ⟨#[]⟩, .string ⟨#[65]⟩, .string ⟨#[49]⟩, .string ⟨#[97, 32, 98]⟩, .string ⟨#[95, 97]⟩, .string ⟨#[97, 10]⟩, .string ⟨#[97, 98, 99, 100, 101, 102, 103, 104, 105, 106, 107, 108, 109, 110, 111, 112, 113, 114, 115, 116, 117, 118, 119, 120, 121, 122, 97, 98, 99, 100, 101, 102, 103]⟩] 9)) b6) (badNm_at b7 hlt).1; clear x0 x1 fx0 fx1 y0 fy0 y1 fy1 y2 fy2 y3 fy3 y4 fy4 y5 fy5 y6 fy6 b6 ha5
    have x0 := cell_of_block (i := 0) H6.out.s rfl; have x1 := cell_of_block (i := 1) H6.out.s rfl; have fx0 := frozen_of_block (i := 0) H6.out.s; have fx1 := frozen_of_block (i := 1) H6.out.s; have y0 := cell_of_block (i := 0) H6.out.c rfl; have fy0 := frozen_of_block (i := 0) H6.out.c; have y1 := cell_of_block (i := 1) H6.out.c rfl; have fy1 := frozen_of_block (i := 1) H6.out.c; have y2 := cell_of_block (i := 2) H6.out.c rfl; have fy2 := frozen_of_block (i := 2) H6.out.c; have y3 := cell_of_block (i := 3) H6.out.c rfl; have fy3 := frozen_of_block (i := 3) H6.out.c
    have y4 := cell_of_block (i := 4) H6.out.c rfl; have fy4 := frozen_of_block (i := 4) H6.out.c; have y5 := cell_of_block (i := 5) H6.out.c rfl; have fy5 := frozen_of_block (i := 5) H6.out.c; have y6 := cell_of_block (i := 6) H6.out.c rfl; have fy6 := frozen_of_block (i := 6) H6.out.c
    have lz : (b7 : Int) < 7 := by omega
    have lz2 : decide ((b7 : Int) < 7) = true := by simp; omega
    go_wp2_with fail
    go_meet
    have hd := H6.out.col (d' := (i0, badNm b7, (k0, u0), n0, m0, t0)) (grown_set' w6 cb 1 _) (md_seven' H6.out.c _).2.1; refine .inl ⟨K3, d3, M, ks, _, hd, by have := SO.out.keys; omega, ⟨(badNm_at b7 HL7.out).2.2, HCZ.out.2⟩, bad_nm HCC.out (badNm_at b7 HL7.out).2.1⟩
  · have tt0 : (mm == 0) = false := by rw [e]; rfl
    have tt1 : (mm == 1) = false := by rw [e]; rfl
    have tt2 : (mm == 2) = false := by rw [e]; rfl
    have tt3 : (mm == 3) = true := by rw [e]; rfl
    clear e; have x0 := cell_of_block (i := 0) HS.out.s rfl; have x1 := cell_of_block (i := 1) HS.out.s rfl; have fx0 := frozen_of_block (i := 0) HS.out.s; have fx1 := frozen_of_block (i := 1) HS.out.s; have y0 := cell_of_block (i := 0) HS.out.c rfl; have fy0 := frozen_of_block (i := 0) HS.out.c; have y1 := cell_of_block (i := 1) HS.out.c rfl; have fy1 := frozen_of_block (i := 1) HS.out.c; have y2 := cell_of_block (i := 2) HS.out.c rfl; have fy2 := frozen_of_block (i := 2) HS.out.c; have y3 := cell_of_block (i := 3) HS.out.c rfl; have fy3 := frozen_of_block (i := 3) HS.out.c
    have y4 := cell_of_block (i := 4) HS.out.c rfl; have fy4 := frozen_of_block (i := 4) HS.out.c; have y5 := cell_of_block (i := 5) HS.out.c rfl; have fy5 := frozen_of_block (i := 5) HS.out.c; have y6 := cell_of_block (i := 6) HS.out.c rfl; have fy6 := frozen_of_block (i := 6) HS.out.c; have hjn := HJN.out; have hj := HJ.out; have hz := HZ.out; have vk : IntKind.i64.wrap ((k : Int) + 1) = (k : Int) + 1 := IntWalk.i64_in _ (by omega)
    have vj : IntKind.i64.wrap (((k : Int) + 1).tmod (N : Int)) = (j : Int) := by rw [hj]; exact IntWalk.i64_in _ (by omega)
    have lj : (j : Int) < (N : Int) := by omega
    have hN0 : ((N : Int) == 0) = false := by rw [beq_eq_false_iff_ne]; omega
    have hN1 : ¬ (N : Int) = 0 := by omega
    have hN2 : ¬ N = 0 := by omega
    obtain ⟨Bo1, _, ho1⟩ := HS.out.o1; obtain ⟨z0, z1, _⟩ := own_co ho1 HEE.out; simp only at z0 z1; have hdr : Below w5.heap.size w5 w5.drew := ms_drewN (Below.refl _ w5) 1; have HD := Lib.hid (HS.out.step hdr); clear ho1 hdr; have hd := HD.out.col (d' := (i0, s1, (k0, u0), n0, m0, t0)) (grown_set' w5.drew cb 1 _) (md_seven' HD.out.c _).2.1; have HD1 := Lib.hid hd; clear hd
    go_upto_region 16 with fail
    go_cut [28, 36, 55, 63] (fun s28 s36 s55 s63 wx => Spd 28 37 3 w sb cb g N c3 (.slice K3 M d3) cs ks (i0, s1, (k0, u0), n0, m0, t0) wx)
    case first =>
     go_region_with fail
     all_goals go_wp2_with fail
     all_goals
      go_meet
      exact HD1.out
    case rest =>
     clear z0 z1 x0 x1 fx0 fx1 y0 fy0 y1 fy1 y2 fy2 y3 fy3 y4 fy4 y5 fy5 y6 fy6 HD HD1 HS; have HQ := Lib.hid hcut; clear hcut; have gx0 := cell_of_block (i := 0) HQ.out.s rfl; have gf := frozen_of_block (i := 1) HQ.out.c; have gy := cell_of_block (i := 1) HQ.out.c rfl
     by_cases h1 : N = 1
     · have q1 : ((N : Int) == 1) = true := by rw [beq_iff_eq]; omega
       have q2 : (N : Int) = 1 := by omega
       have H1 := Lib.hid h1; clear h1
       go_wp2_with fail
       go_meet
       have hd := HQ.out.col (d' := (i0, ⟨#[]⟩, (k0, u0), n0, m0, t0)) (grown_set' _ cb 1 _) (md_seven' HQ.out.c _).2.1; exact .inl ⟨K3, d3, M, ks, (i0, ⟨#[]⟩, (k0, u0), n0, m0, t0), hd, by have := SO.out.keys; omega, ⟨by show (ByteArray.mk #[]).size ≤ 100000; decide, HCZ.out.2⟩, bad_nm HCC.out (by show isNm [] = false; rfl)⟩
     · have q1 : ((N : Int) == 1) = false := by rw [beq_eq_false_iff_ne]; omega
       have q2 : ¬ (N : Int) = 1 := by omega
       have q3 : ¬ N = 1 := h1; have H1 := Lib.hid h1; clear h1
       go_wp2_with fail
       go_meet
       exact .inl ⟨K3, d3, M, ks, (i0, s1, (k0, u0), n0, m0, t0), HQ.out, by have := SO.out.keys; omega, ⟨HEZ.out.1, HCZ.out.2⟩, bad_nms HCC.out HEE.out (HJK.out H1.out) rfl⟩
  · have tt0 : (mm == 0) = false := by rw [e]; rfl
    have tt1 : (mm == 1) = false := by rw [e]; rfl
    have tt2 : (mm == 2) = false := by rw [e]; rfl
    have tt3 : (mm == 3) = false := by rw [e]; rfl
    have tt4 : (mm == 4) = true := by rw [e]; rfl
    clear e; have x0 := cell_of_block (i := 0) HS.out.s rfl; have x1 := cell_of_block (i := 1) HS.out.s rfl; have fx0 := frozen_of_block (i := 0) HS.out.s; have fx1 := frozen_of_block (i := 1) HS.out.s; have y0 := cell_of_block (i := 0) HS.out.c rfl; have fy0 := frozen_of_block (i := 0) HS.out.c; have y1 := cell_of_block (i := 1) HS.out.c rfl; have fy1 := frozen_of_block (i := 1) HS.out.c; have y2 := cell_of_block (i := 2) HS.out.c rfl; have fy2 := frozen_of_block (i := 2) HS.out.c; have y3 := cell_of_block (i := 3) HS.out.c rfl; have fy3 := frozen_of_block (i := 3) HS.out.c
    have y4 := cell_of_block (i := 4) HS.out.c rfl; have fy4 := frozen_of_block (i := 4) HS.out.c; have y5 := cell_of_block (i := 5) HS.out.c rfl; have fy5 := frozen_of_block (i := 5) HS.out.c; have y6 := cell_of_block (i := 6) HS.out.c rfl; have fy6 := frozen_of_block (i := 6) HS.out.c; have ha5 : Below w5.heap.size w5 (w5.alloc (.cells #[.int .i64 0, .int .i64 6, .int .i64 (-1), .int .i64 9223372036854775807] 3)) := (Below.refl _ _).alloc (Nat.le_refl _) _
    go_wp2_with fail
    refine (HB4.out _).mono ?_; rintro en w6 ⟨rfl, b6⟩; have H6 := Lib.hid ((HS.out.step ha5).step b6); have hlt := HL4.out; have zz := cell_of_block (i := b4) (block_kept (block_new w5 (.cells #[.int .i64 0, .int .i64 6, .int .i64 (-1), .int .i64 9223372036854775807] 3)) b6) (badKd_at b4 hlt).1; clear x0 x1 fx0 fx1 y0 fy0 y1 fy1 y2 fy2 y3 fy3 y4 fy4 y5 fy5 y6 fy6 b6 ha5; have x0 := cell_of_block (i := 0) H6.out.s rfl; have x1 := cell_of_block (i := 1) H6.out.s rfl; have fx0 := frozen_of_block (i := 0) H6.out.s; have fx1 := frozen_of_block (i := 1) H6.out.s
    have y0 := cell_of_block (i := 0) H6.out.c rfl; have fy0 := frozen_of_block (i := 0) H6.out.c; have y1 := cell_of_block (i := 1) H6.out.c rfl; have fy1 := frozen_of_block (i := 1) H6.out.c; have y2 := cell_of_block (i := 2) H6.out.c rfl; have fy2 := frozen_of_block (i := 2) H6.out.c; have y3 := cell_of_block (i := 3) H6.out.c rfl; have fy3 := frozen_of_block (i := 3) H6.out.c; have y4 := cell_of_block (i := 4) H6.out.c rfl; have fy4 := frozen_of_block (i := 4) H6.out.c; have y5 := cell_of_block (i := 5) H6.out.c rfl; have fy5 := frozen_of_block (i := 5) H6.out.c
    have y6 := cell_of_block (i := 6) H6.out.c rfl; have fy6 := frozen_of_block (i := 6) H6.out.c
    have lz : (b4 : Int) < 4 := by omega
    have lz2 : decide ((b4 : Int) < 4) = true := by simp; omega
    go_wp2_with fail
    go_meet
    have hd := H6.out.col (d' := (i0, s0, (badKd b4, u0), n0, m0, t0)) (grown_set' w6 cb 2 _) (md_seven' H6.out.c _).2.2.1; refine .inl ⟨K3, d3, M, ks, _, hd, by have := SO.out.keys; omega, HCZ.out, bad_kind HCC.out (badKd_at b4 HL4.out).2⟩
  · have tt0 : (mm == 0) = false := by rw [e]; rfl
    have tt1 : (mm == 1) = false := by rw [e]; rfl
    have tt2 : (mm == 2) = false := by rw [e]; rfl
    have tt3 : (mm == 3) = false := by rw [e]; rfl
    have tt4 : (mm == 4) = false := by rw [e]; rfl
    have tt5 : (mm == 5) = true := by rw [e]; rfl
    clear e; have x0 := cell_of_block (i := 0) HS.out.s rfl; have x1 := cell_of_block (i := 1) HS.out.s rfl; have fx0 := frozen_of_block (i := 0) HS.out.s; have fx1 := frozen_of_block (i := 1) HS.out.s; have y0 := cell_of_block (i := 0) HS.out.c rfl; have fy0 := frozen_of_block (i := 0) HS.out.c; have y1 := cell_of_block (i := 1) HS.out.c rfl; have fy1 := frozen_of_block (i := 1) HS.out.c; have y2 := cell_of_block (i := 2) HS.out.c rfl; have fy2 := frozen_of_block (i := 2) HS.out.c; have y3 := cell_of_block (i := 3) HS.out.c rfl; have fy3 := frozen_of_block (i := 3) HS.out.c
    have y4 := cell_of_block (i := 4) HS.out.c rfl; have fy4 := frozen_of_block (i := 4) HS.out.c; have y5 := cell_of_block (i := 5) HS.out.c rfl; have fy5 := frozen_of_block (i := 5) HS.out.c; have y6 := cell_of_block (i := 6) HS.out.c rfl; have fy6 := frozen_of_block (i := 6) HS.out.c
    go_wp2_with fail
    go_meet
    have hg := ((grown_set' w5 cb 4 (.bool false)).trans (grown_set' _ cb 5 (.int .i64 5))).trans (grown_set' _ cb 6 (.string ⟨#[120]⟩)); have hd := HS.out.col (d' := (i0, s0, (k0, u0), false, 5, ⟨#[120]⟩)) hg (seven_three' HS.out.c _ _ _); exact .inl ⟨K3, d3, M, ks, _, hd, by have := SO.out.keys; omega, ⟨HCZ.out.1, by show (ByteArray.mk #[120]).size ≤ 100000; decide⟩, bad_co HCC.out fun h => five_x _ h.2⟩
  · have tt0 : (mm == 0) = false := by rw [e]; rfl
    have tt1 : (mm == 1) = false := by rw [e]; rfl
    have tt2 : (mm == 2) = false := by rw [e]; rfl
    have tt3 : (mm == 3) = false := by rw [e]; rfl
    have tt4 : (mm == 4) = false := by rw [e]; rfl
    have tt5 : (mm == 5) = false := by rw [e]; rfl
    have tt6 : (mm == 6) = true := by rw [e]; rfl
    clear e; have x0 := cell_of_block (i := 0) HS.out.s rfl; have x1 := cell_of_block (i := 1) HS.out.s rfl; have fx0 := frozen_of_block (i := 0) HS.out.s; have fx1 := frozen_of_block (i := 1) HS.out.s; have y0 := cell_of_block (i := 0) HS.out.c rfl; have fy0 := frozen_of_block (i := 0) HS.out.c; have y1 := cell_of_block (i := 1) HS.out.c rfl; have fy1 := frozen_of_block (i := 1) HS.out.c; have y2 := cell_of_block (i := 2) HS.out.c rfl; have fy2 := frozen_of_block (i := 2) HS.out.c; have y3 := cell_of_block (i := 3) HS.out.c rfl; have fy3 := frozen_of_block (i := 3) HS.out.c
    have y4 := cell_of_block (i := 4) HS.out.c rfl; have fy4 := frozen_of_block (i := 4) HS.out.c; have y5 := cell_of_block (i := 5) HS.out.c rfl; have fy5 := frozen_of_block (i := 5) HS.out.c; have y6 := cell_of_block (i := 6) HS.out.c rfl; have fy6 := frozen_of_block (i := 6) HS.out.c; have hd0 := HS.out.col (d' := (i0, s0, (k0, false), n0, m0, t0)) (grown_set' w5 cb 3 _) (md_seven' HS.out.c _).2.2.2.1; have HD0 := Lib.hid hd0; clear hd0; have g4 := frozen_of_block (i := 4) HD0.out.c; have g5 := frozen_of_block (i := 5) HD0.out.c; have g6 := frozen_of_block (i := 6) HD0.out.c
    have c4 := cell_of_block (i := 4) HD0.out.c rfl; have c5 := cell_of_block (i := 5) HD0.out.c rfl; have c6 := cell_of_block (i := 6) HD0.out.c rfl
    go_wp2_with fail
    go_meet
    have hg := ((grown_set' (w5.setCell ⟨cb, 3, none⟩ (.bool false)) cb 4 (.bool true)).trans (grown_set' _ cb 5 (.int .i64 0))).trans (grown_set' _ cb 6 (.string ⟨#[]⟩)); have hd := HD0.out.col (d' := (i0, s0, (k0, false), true, 0, ⟨#[]⟩)) hg (seven_three' HD0.out.c _ _ _); exact .inl ⟨K3, d3, M, ks, _, hd, by have := SO.out.keys; omega, ⟨HCZ.out.1, by show (ByteArray.mk #[]).size ≤ 100000; decide⟩, bad_co HCC.out fun h => null_no _ h.2⟩
  · have tt0 : (mm == 0) = false := by rw [e]; rfl
    have tt1 : (mm == 1) = false := by rw [e]; rfl
    have tt2 : (mm == 2) = false := by rw [e]; rfl
    have tt3 : (mm == 3) = false := by rw [e]; rfl
    have tt4 : (mm == 4) = false := by rw [e]; rfl
    have tt5 : (mm == 5) = false := by rw [e]; rfl
    have tt6 : (mm == 6) = false := by rw [e]; rfl
    have tt7 : (mm == 7) = true := by rw [e]; rfl
    clear e; have x0 := cell_of_block (i := 0) HS.out.s rfl; have x1 := cell_of_block (i := 1) HS.out.s rfl; have fx0 := frozen_of_block (i := 0) HS.out.s; have fx1 := frozen_of_block (i := 1) HS.out.s; have y0 := cell_of_block (i := 0) HS.out.c rfl; have fy0 := frozen_of_block (i := 0) HS.out.c; have y1 := cell_of_block (i := 1) HS.out.c rfl; have fy1 := frozen_of_block (i := 1) HS.out.c; have y2 := cell_of_block (i := 2) HS.out.c rfl; have fy2 := frozen_of_block (i := 2) HS.out.c; have y3 := cell_of_block (i := 3) HS.out.c rfl; have fy3 := frozen_of_block (i := 3) HS.out.c
    have y4 := cell_of_block (i := 4) HS.out.c rfl; have fy4 := frozen_of_block (i := 4) HS.out.c; have y5 := cell_of_block (i := 5) HS.out.c rfl; have fy5 := frozen_of_block (i := 5) HS.out.c; have y6 := cell_of_block (i := 6) HS.out.c rfl; have fy6 := frozen_of_block (i := 6) HS.out.c; have ha : Below w5.heap.size w5 (w5.alloc (.cells (intV [(N : Int)]).toArray 3)) := (Below.refl _ w5).alloc (Nat.le_refl _) _; have S8 := Lib.hid (HS.out.step ha); obtain ⟨Bq, hBq, ho2q⟩ := S8.out.o2
    have ho2 : OwnI (w5.alloc (.cells (intV [(N : Int)]).toArray 3)) w.heap.size 3 (.slice K3 M d3) ks := own_more ho2q hBq; have Q8 := Lib.hid (lay_new w5 (intV [(N : Int)]) 3); have p8 : (w5.alloc (.cells #[.int .i64 (N : Int)] 3)).cell? ⟨sb, 1, none⟩ = some (.slice K3 M d3) := cell_of_block (i := 1) S8.out.s rfl
    have ho2m : (w5.alloc (.cells (intV [(N : Int)]).toArray 3)).ownsRow w.heap.size 3 1 (.slice K3 M d3) M (intV ks) := by have h := ho2; unfold OwnI at h; rw [HM.out] at h; exact h
    have hhi : w.heap.size ≤ (w5.alloc (.cells (intV [(N : Int)]).toArray 3)).heap.size := S8.out.bel.size
    have O2 := Lib.hid ho2; have O2M := Lib.hid ho2m; have HHI := Lib.hid hhi
    have hm8 : M + 1 ≤ maxLen := by have := HZ.out; unfold maxLen; omega
    have hb8 : (M + 1) * 8 ≤ 140737488355328 := by have := HZ.out; omega
    have HM8 := Lib.hid hm8; have HB8 := Lib.hid hb8
    clear ha ho2 ho2q hBq ho2m hhi hm8 hb8 fx1
    go_wp2_with (at_builtin; refine wpList_append_lay rfl (.tmp 104) (.tmp 108) 26 rfl w.heap.size 3 ii _ 1 8 under_ints ki kz0 kz1 kz2 rfl (by omega) (.slice K3 M d3) M (intV ks) rfl O2M.out _ (some ⟨w5.heap.size, 0, none⟩) 1 1 (intV [(N : Int)]) rfl rfl Q8.out (intV_one _) HM8.out HB8.out HHI.out ?_; intro v9 w9 own9 hg9; (obtain ⟨A9, c9, hv9, _⟩ := yown_slice own9); subst hv9; (have hz := S8.out.afterA O2.out hg9); (have y1 := cell_of_block (i := 1) hz rfl); (have f1 := frozen_of_block (i := 1) hz); (have OWN9 := Lib.hid own9); (have HG9 := Lib.hid hg9); clear hz own9 hg9)
    go_meet
    have hown := OWN9.out; rw [← HM.out] at hown; have hd := S8.out.keysA (by decide) O2.out (Nat.le_refl _) HG9.out hown; rw [HM.out] at hd; refine .inl ⟨A9, c9, M + 1, _, _, hd, by rw [List.length_append, HM.out]; have := HZ.out; simp; omega, HCZ.out, ?_⟩; rw [HSET.out, ← HN.out]; exact bad_last
  · have tt0 : (mm == 0) = false := by rw [e]; rfl
    have tt1 : (mm == 1) = false := by rw [e]; rfl
    have tt2 : (mm == 2) = false := by rw [e]; rfl
    have tt3 : (mm == 3) = false := by rw [e]; rfl
    have tt4 : (mm == 4) = false := by rw [e]; rfl
    have tt5 : (mm == 5) = false := by rw [e]; rfl
    have tt6 : (mm == 6) = false := by rw [e]; rfl
    have tt7 : (mm == 7) = false := by rw [e]; rfl
    have tt8 : (mm == 8) = true := by rw [e]; rfl
    clear e; have x0 := cell_of_block (i := 0) HS.out.s rfl; have x1 := cell_of_block (i := 1) HS.out.s rfl; have fx0 := frozen_of_block (i := 0) HS.out.s; have fx1 := frozen_of_block (i := 1) HS.out.s; have y0 := cell_of_block (i := 0) HS.out.c rfl; have fy0 := frozen_of_block (i := 0) HS.out.c; have y1 := cell_of_block (i := 1) HS.out.c rfl; have fy1 := frozen_of_block (i := 1) HS.out.c; have y2 := cell_of_block (i := 2) HS.out.c rfl; have fy2 := frozen_of_block (i := 2) HS.out.c; have y3 := cell_of_block (i := 3) HS.out.c rfl; have fy3 := frozen_of_block (i := 3) HS.out.c
    have y4 := cell_of_block (i := 4) HS.out.c rfl; have fy4 := frozen_of_block (i := 4) HS.out.c; have y5 := cell_of_block (i := 5) HS.out.c rfl; have fy5 := frozen_of_block (i := 5) HS.out.c; have y6 := cell_of_block (i := 6) HS.out.c rfl; have fy6 := frozen_of_block (i := 6) HS.out.c; have hal : Below w5.heap.size w5 (w5.alloc (.cells (intV [(-1 : Int)]).toArray 3)) := (Below.refl _ w5).alloc (Nat.le_refl _) _; have S8 := Lib.hid (HS.out.step hal); obtain ⟨Bk, hBk, ho2⟩ := S8.out.o2
    have ly : Lay (w5.alloc (.cells (intV [(-1 : Int)]).toArray 3)) (w5.alloc (.cells (intV [(-1 : Int)]).toArray 3)).heap.size K3 (intV ks) := ho2.lay.2; have own0 : (w5.alloc (.cells (intV [(-1 : Int)]).toArray 3)).ownsRow w5.heap.size 3 1 (.slice (some ⟨w5.heap.size, 0, none⟩) 1 1) 1 (intV [(-1 : Int)]) := World.ownsRow_lit w5 #[.int .i64 (-1)] 1 (Nat.le_refl _) (by unfold maxLen; omega) rfl; have p8 : (w5.alloc (.cells #[.int .i64 (-1)] 3)).cell? ⟨sb, 1, none⟩ = some (.slice K3 M d3) := cell_of_block (i := 1) S8.out.s rfl
    have O0 := Lib.hid own0; have LY := Lib.hid ly; have HAL := Lib.hid hal
    have hm8 : 1 + M ≤ maxLen := by have := HZ.out; unfold maxLen; omega
    have hb8 : (1 + M) * 8 ≤ 140737488355328 := by have := HZ.out; omega
    have hl8 : (intV ks).length = M * 1 := by rw [intV_len, HM.out]
    have hhi : w5.heap.size ≤ (w5.alloc (.cells (intV [(-1 : Int)]).toArray 3)).heap.size := hal.size
    have HM8 := Lib.hid hm8; have HB8 := Lib.hid hb8; have HL8 := Lib.hid hl8; have HHI := Lib.hid hhi
    clear hal ho2 hBk ly own0 hm8 hb8 hl8 hhi fx1
    go_wp2_with (at_builtin; refine wpList_append_lay rfl (.tmp 113) (.tmp 115) 26 rfl w5.heap.size 3 ii _ 1 8 under_ints ki kz0 kz1 kz2 rfl (by omega) (.slice (some ⟨w5.heap.size, 0, none⟩) 1 1) 1 (intV [(-1 : Int)]) rfl O0.out _ K3 M d3 (intV ks) rfl HL8.out LY.out (intV_one _) HM8.out HB8.out HHI.out ?_; intro v9 w9 own9 hg9; (obtain ⟨A9, c9, hv9, _⟩ := yown_slice own9); subst hv9; (have hb9 := grown_new HS.out.bel.size HAL.out hg9); (have hz := (HS.out.step hb9).s); (have y1 := cell_of_block (i := 1) hz rfl); (have f1 := frozen_of_block (i := 1) hz); (have OWN9 := Lib.hid own9); (have HB9 := Lib.hid hb9); clear hz own9 hg9 hb9)
    go_meet
    have hown : OwnI w9 w5.heap.size 3 (.slice A9 (1 + M) c9) (-1 :: ks) := by
     have h := OWN9.out; unfold OwnI; rw [List.length_cons, HM.out]; rw [Nat.add_comm 1 M] at h ⊢; exact h
    have hd := HS.out.keysN HB9.out HS.out.bel.size hown; refine .inl ⟨A9, c9, 1 + M, _, _, hd, by rw [List.length_cons, HM.out]; have := HZ.out; omega, HCZ.out, ?_⟩; rw [HSET.out]; exact bad_first
  · have tt0 : (mm == 0) = false := by rw [e]; rfl
    have tt1 : (mm == 1) = false := by rw [e]; rfl
    have tt2 : (mm == 2) = false := by rw [e]; rfl
    have tt3 : (mm == 3) = false := by rw [e]; rfl
    have tt4 : (mm == 4) = false := by rw [e]; rfl
    have tt5 : (mm == 5) = false := by rw [e]; rfl
    have tt6 : (mm == 6) = false := by rw [e]; rfl
    have tt7 : (mm == 7) = false := by rw [e]; rfl
    have tt8 : (mm == 8) = false := by rw [e]; rfl
    have tt9 : (mm == 9) = true := by rw [e]; rfl
    clear e; have x0 := cell_of_block (i := 0) HS.out.s rfl; have x1 := cell_of_block (i := 1) HS.out.s rfl; have fx0 := frozen_of_block (i := 0) HS.out.s; have fx1 := frozen_of_block (i := 1) HS.out.s; have y0 := cell_of_block (i := 0) HS.out.c rfl; have fy0 := frozen_of_block (i := 0) HS.out.c; have y1 := cell_of_block (i := 1) HS.out.c rfl; have fy1 := frozen_of_block (i := 1) HS.out.c; have y2 := cell_of_block (i := 2) HS.out.c rfl; have fy2 := frozen_of_block (i := 2) HS.out.c; have y3 := cell_of_block (i := 3) HS.out.c rfl; have fy3 := frozen_of_block (i := 3) HS.out.c
    have y4 := cell_of_block (i := 4) HS.out.c rfl; have fy4 := frozen_of_block (i := 4) HS.out.c; have y5 := cell_of_block (i := 5) HS.out.c rfl; have fy5 := frozen_of_block (i := 5) HS.out.c; have y6 := cell_of_block (i := 6) HS.out.c rfl; have fy6 := frozen_of_block (i := 6) HS.out.c; have hal : Below w5.heap.size w5 (w5.alloc (.cells #[.int .i64 (k : Int), .int .i64 (k : Int)] 3)) := (Below.refl _ w5).alloc (Nat.le_refl _) _; have S8 := Lib.hid (HS.out.step hal)
    have hown : OwnI (w5.alloc (.cells #[.int .i64 (k : Int), .int .i64 (k : Int)] 3)) w5.heap.size 3 (.slice (some ⟨w5.heap.size, 0, none⟩) 2 2) [(k : Int), (k : Int)] := World.ownsRow_lit w5 #[.int .i64 (k : Int), .int .i64 (k : Int)] 2 (Nat.le_refl _) (by unfold maxLen; omega) rfl; have hd := HS.out.keysN hal HS.out.bel.size hown; have HDD := Lib.hid hd; clear hal hown hd fx1; have y1 := cell_of_block (i := 1) S8.out.s rfl; have f1 := frozen_of_block (i := 1) S8.out.s
    go_wp2_with fail
    go_meet
    refine .inl ⟨_, 2, 2, [(k : Int), (k : Int)], (i0, s0, (k0, u0), n0, m0, t0), HDD.out, by simp, HCZ.out, ?_⟩; exact bad_twice
  · have tt0 : (mm == 0) = false := by rw [e]; rfl
    have tt1 : (mm == 1) = false := by rw [e]; rfl
    have tt2 : (mm == 2) = false := by rw [e]; rfl
    have tt3 : (mm == 3) = false := by rw [e]; rfl
    have tt4 : (mm == 4) = false := by rw [e]; rfl
    have tt5 : (mm == 5) = false := by rw [e]; rfl
    have tt6 : (mm == 6) = false := by rw [e]; rfl
    have tt7 : (mm == 7) = false := by rw [e]; rfl
    have tt8 : (mm == 8) = false := by rw [e]; rfl
    have tt9 : (mm == 9) = false := by rw [e]; rfl
    have tt10 : (mm == 10) = true := by rw [e]; rfl
    clear e; have x0 := cell_of_block (i := 0) HS.out.s rfl; have x1 := cell_of_block (i := 1) HS.out.s rfl; have fx0 := frozen_of_block (i := 0) HS.out.s; have fx1 := frozen_of_block (i := 1) HS.out.s; have y0 := cell_of_block (i := 0) HS.out.c rfl; have fy0 := frozen_of_block (i := 0) HS.out.c; have y1 := cell_of_block (i := 1) HS.out.c rfl; have fy1 := frozen_of_block (i := 1) HS.out.c; have y2 := cell_of_block (i := 2) HS.out.c rfl; have fy2 := frozen_of_block (i := 2) HS.out.c; have y3 := cell_of_block (i := 3) HS.out.c rfl; have fy3 := frozen_of_block (i := 3) HS.out.c
    have y4 := cell_of_block (i := 4) HS.out.c rfl; have fy4 := frozen_of_block (i := 4) HS.out.c; have y5 := cell_of_block (i := 5) HS.out.c rfl; have fy5 := frozen_of_block (i := 5) HS.out.c; have y6 := cell_of_block (i := 6) HS.out.c rfl; have fy6 := frozen_of_block (i := 6) HS.out.c; have hd0 := HS.out.col (d' := (i0, s0, (k0, true), n0, m0, t0)) (grown_set' w5 cb 3 (.bool true)) (md_seven' HS.out.c _).2.2.2.1; have HD0 := Lib.hid hd0
    have hal : Below (w5.setCell ⟨cb, 3, none⟩ (.bool true)).heap.size (w5.setCell ⟨cb, 3, none⟩ (.bool true)) ((w5.setCell ⟨cb, 3, none⟩ (.bool true)).alloc (.cells #[.int .i64 (k : Int)] 3)) := (Below.refl _ _).alloc (Nat.le_refl _) _; have S8 := Lib.hid (hd0.step hal)
    have hown : OwnI ((w5.setCell ⟨cb, 3, none⟩ (.bool true)).alloc (.cells #[.int .i64 (k : Int)] 3)) (w5.setCell ⟨cb, 3, none⟩ (.bool true)).heap.size 3 (.slice (some ⟨(w5.setCell ⟨cb, 3, none⟩ (.bool true)).heap.size, 0, none⟩) 1 1) [(k : Int)] := World.ownsRow_lit _ #[.int .i64 (k : Int)] 1 (Nat.le_refl _) (by unfold maxLen; omega) rfl; have hd := hd0.keysN hal hd0.bel.size hown; simp only [World.size_setCell] at hd; have HDD := Lib.hid hd; clear hal hown hd hd0 fx1; have y1 := cell_of_block (i := 1) S8.out.s rfl; have f1 := frozen_of_block (i := 1) S8.out.s
    go_wp2_with fail
    go_meet
    refine .inl ⟨_, 1, 1, [(k : Int)], (i0, s0, (k0, true), n0, m0, t0), HDD.out, by simp, HCZ.out, ?_⟩; exact bad_null HCC.out rfl
  · have tt0 : (mm == 0) = false := by rw [e]; rfl
    have tt1 : (mm == 1) = false := by rw [e]; rfl
    have tt2 : (mm == 2) = false := by rw [e]; rfl
    have tt3 : (mm == 3) = false := by rw [e]; rfl
    have tt4 : (mm == 4) = false := by rw [e]; rfl
    have tt5 : (mm == 5) = false := by rw [e]; rfl
    have tt6 : (mm == 6) = false := by rw [e]; rfl
    have tt7 : (mm == 7) = false := by rw [e]; rfl
    have tt8 : (mm == 8) = false := by rw [e]; rfl
    have tt9 : (mm == 9) = false := by rw [e]; rfl
    have tt10 : (mm == 10) = false := by rw [e]; rfl
    clear e; have x0 := cell_of_block (i := 0) HS.out.s rfl; have x1 := cell_of_block (i := 1) HS.out.s rfl; have fx0 := frozen_of_block (i := 0) HS.out.s; have fx1 := frozen_of_block (i := 1) HS.out.s; have y0 := cell_of_block (i := 0) HS.out.c rfl; have fy0 := frozen_of_block (i := 0) HS.out.c; have y1 := cell_of_block (i := 1) HS.out.c rfl; have fy1 := frozen_of_block (i := 1) HS.out.c; have y2 := cell_of_block (i := 2) HS.out.c rfl; have fy2 := frozen_of_block (i := 2) HS.out.c; have y3 := cell_of_block (i := 3) HS.out.c rfl; have fy3 := frozen_of_block (i := 3) HS.out.c
    have y4 := cell_of_block (i := 4) HS.out.c rfl; have fy4 := frozen_of_block (i := 4) HS.out.c; have y5 := cell_of_block (i := 5) HS.out.c rfl; have fy5 := frozen_of_block (i := 5) HS.out.c; have y6 := cell_of_block (i := 6) HS.out.c rfl; have fy6 := frozen_of_block (i := 6) HS.out.c; have hz0 := two_set0 HS.out.s (.slice none 0 0); have g1 := frozen_of_block (i := 1) hz0; have c1 := cell_of_block (i := 1) hz0 rfl; have HZ0 := Lib.hid hz0; clear hz0; have hz1 := two_set1 HZ0.out (.slice none 0 0); have HZ1 := Lib.hid hz1; clear hz1
    go_wp2_with fail
    go_meet
    exact .inr ⟨HZ1.out, (HS.out.bel.setCell (p := ⟨sb, 0, none⟩) HS.out.lt.1 _).setCell (p := ⟨sb, 1, none⟩) HS.out.lt.1 _⟩
 case rest =>
  clear HS
  rcases hcut with ⟨A2, d2, M2, kz, d, hs, hkz, hdz, hbad⟩ | ⟨hq, hbel⟩
  · have hkl : k < cs.length := by rw [HN.out]; exact HKN.out
    have hbk := hs.back (by decide) hkl; obtain ⟨Bo1, _, ho1⟩ := hs.o1; have hco := own_co ho1 HCC.out
    have hsz : ∀ c ∈ cs.set k d, c.2.1.size ≤ 100000 ∧ c.2.2.2.2.2.size ≤ 100000 := fun c hc => by
     rcases List.mem_or_eq_of_mem_set hc with h | rfl
     · exact SO.out.sizes c h
     · exact hdz
    have hbc := bad_check hbad
    have hlen : (cs.set k d).length = N := by rw [List.length_set, HN.out]
    obtain ⟨i2, s2, ⟨k2, u2⟩, n2, m2, t2⟩ := d; obtain ⟨hsl, hsb, hbl, hM2⟩ := hbk
    have htx := fun wq (h : ScL wq (some ⟨g, 0, none⟩) A2 (cs.set k (i2, s2, (k2, u2), n2, m2, t2)) kz) (hb : Below w.heap.size w wq) => sctext_any wq (some ⟨g, 0, none⟩) A2 N c3 M2 d2 (cs.set k (i2, s2, (k2, u2), n2, m2, t2)) kz hsz (by have := HZ.out; omega) (by omega) hlen.symm hM2 h.a h.b (HE.out.below hb)
    have hck := fun wq (h : ScL wq (some ⟨g, 0, none⟩) A2 (cs.set k (i2, s2, (k2, u2), n2, m2, t2)) kz) (hb : Below w.heap.size w wq) => sccheck_any wq (some ⟨g, 0, none⟩) A2 N c3 M2 d2 (cs.set k (i2, s2, (k2, u2), n2, m2, t2)) kz hsz (by have := HZ.out; omega) (by omega) hlen.symm hM2 h.a h.b (HE.out.below hb)
    rw [hbc.1, hbc.2] at htx; rw [hbc.1] at hck
    generalize cs.set k (i2, s2, (k2, u2), n2, m2, t2) = es at htx hck hsl
    have x0 := cell_of_block (i := 0) hs.s rfl; have y0 := cell_of_block (i := 0) hs.c rfl; have y1 := cell_of_block (i := 1) hs.c rfl; have y2 := cell_of_block (i := 2) hs.c rfl; have y3 := cell_of_block (i := 3) hs.c rfl; have y4 := cell_of_block (i := 4) hs.c rfl; have y5 := cell_of_block (i := 5) hs.c rfl; have y6 := cell_of_block (i := 6) hs.c rfl; obtain ⟨z0, z1, z2, z3, z4, z5, z6, fz0, fz1, fz2, fz3, fz4, fz5, fz6⟩ := hco; simp only at z0 z1 z2 z3 z4 z5 z6; have hkn := HKN.out
    have l1 : (k : Int) < (N : Int) := by omega
    have l2 : (0 : Int) < (N : Int) := by omega
    have l3 : decide ((0 : Int) < (N : Int)) = true := by simp; omega
    have l4 : 0 < N := by omega
    have HTX := Lib.hid htx; have HCK := Lib.hid hck; have SL := Lib.hid hsl; have SB := Lib.hid hsb; have BL := Lib.hid hbl
    clear htx hck hsl hsb hbl hs hkz hdz hbad hkl ho1 hsz hbc hlen hM2
    go_upto_region 37 with fail
    simp only at SL SB BL
    generalize (((((((wc.setCell ⟨g, k * 7, none⟩ (.int .i64 i2)).setCell ⟨g, k * 7 + 1, none⟩ (.string s2)).setCell ⟨g, k * 7 + 2, none⟩ (.int .i64 k2)).setCell ⟨g, k * 7 + 3, none⟩ (.bool u2)).setCell ⟨g, k * 7 + 4, none⟩ (.bool n2)).setCell ⟨g, k * 7 + 5, none⟩ (.int .i64 m2)).setCell ⟨g, k * 7 + 6, none⟩ (.string t2)) = Y at SL SB BL ⊢
    clear x0 y0 y1 y2 y3 y4 y5 y6 z0 z1 z2 z3 z4 z5 z6 fz0 fz1 fz2 fz3 fz4 fz5 fz6; have x0 := cell_of_block (i := 0) SB.out rfl; have x1 := cell_of_block (i := 1) SB.out rfl
    go_wp2_with fail
    refine (HTX.out _ SL.out BL.out).mono ?_; rintro en w7 ⟨rfl, b7⟩
    have SL7 := Lib.hid (SL.out.below b7); have SB7 := Lib.hid (block_kept SB.out b7); have BL7 := Lib.hid (BL.out.trans (b7.mono BL.out.size))
    clear x0 x1 b7; have x0 := cell_of_block (i := 0) SB7.out rfl; have x1 := cell_of_block (i := 1) SB7.out rfl
    go_wp2_with fail
    refine (HCK.out _ SL7.out BL7.out).mono ?_; rintro en w8 ⟨rfl, b8⟩; have BL8 := Lib.hid (BL7.out.trans (b8.mono BL7.out.size)); clear b8 x0 x1
    go_wp2_with fail
    refine (works_any _ (HE.out.below BL8.out)).mono ?_; rintro en w9 ⟨rfl, b9⟩; have BL9 := Lib.hid (BL8.out.trans (b9.mono BL8.out.size)); clear b9
    go_wp2_with fail
    go_ret
    exact ⟨rfl, BL9.out⟩
  · have hbc := bad_check (cs := []) (ks := []) bad_none
    have hl0 : ∀ wq : World, Lay wq wq.heap.size none (colV []) := fun wq j u h => by simp [colV] at h
    have hl1 : ∀ wq : World, Lay wq wq.heap.size none (intV []) := fun wq j u h => by simp [intV] at h
    have htx := fun wq (hb : Below w.heap.size w wq) => sctext_any wq none none 0 0 0 0 [] [] (by simp) (by omega) (by omega) rfl rfl (hl0 wq) (hl1 wq) (HE.out.below hb)
    have hck := fun wq (hb : Below w.heap.size w wq) => sccheck_any wq none none 0 0 0 0 [] [] (by simp) (by omega) (by omega) rfl rfl (hl0 wq) (hl1 wq) (HE.out.below hb)
    rw [hbc.1, hbc.2] at htx; rw [hbc.1] at hck
    have HTX := Lib.hid htx; have HCK := Lib.hid hck; have SB := Lib.hid hq; have BL := Lib.hid hbel
    clear htx hck hq hbel hbc hl0 hl1; have x0 := cell_of_block (i := 0) SB.out rfl; have x1 := cell_of_block (i := 1) SB.out rfl
    go_wp2_with fail
    refine (HTX.out _ BL.out).mono ?_; rintro en w7 ⟨rfl, b7⟩
    have SB7 := Lib.hid (block_kept SB.out b7); have BL7 := Lib.hid (BL.out.trans (b7.mono BL.out.size))
    clear x0 x1 b7; have x0 := cell_of_block (i := 0) SB7.out rfl; have x1 := cell_of_block (i := 1) SB7.out rfl
    go_wp2_with fail
    refine (HCK.out _ BL7.out).mono ?_; rintro en w8 ⟨rfl, b8⟩; have BL8 := Lib.hid (BL7.out.trans (b8.mono BL7.out.size)); clear b8 x0 x1
    go_wp2_with fail
    refine (works_any _ (HE.out.below BL8.out)).mono ?_; rintro en w9 ⟨rfl, b9⟩; have BL9 := Lib.hid (BL8.out.trans (b9.mono BL8.out.size)); clear b9
    go_wp2_with fail
    go_ret
    exact ⟨rfl, BL9.out⟩
end Go.Proofs.YthlinmkengoliaaGreatDoor
