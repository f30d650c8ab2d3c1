/- Schemas: the lines of a text with their ends. Schemas: strings.SplitAfter at line feeds. Schemas: SchemaLeft, walked. -/
import Derived.Test.YthlinmkengoliaaGreatDoorZWc
import Derived.Test.YthlinmkengoliaaGreatDoorZWa
import Derived.Lib.SplitLaws
import Derived.Test.YthlinmkengoliaaGreatDoorZSd
import Derived.Test.YthlinmkengoliaaGreatDoorZYa
import Derived.Deep.DeepCutAuto
set_option linter.unusedVariables false
set_option linter.unusedSimpArgs false
namespace Go.Ms
open Go.RowKit Go.Lib
theorem splitK_line {l : Bs} (r : Bs) (h : (10 : UInt8) ∉ l) (k : Nat) : splitK [10] 1 (k + 1) (l ++ 10 :: r) = (l ++ [10]) :: splitK [10] 1 k r := by
 have hc := cutAt_app (y := r) h
 rcases indexByte_cut (c := 10) (s := l ++ 10 :: r) with ⟨h1, _⟩ | ⟨x, y, h1, h2, _, h4⟩
 · rw [hc] at h1; cases h1
 · rw [hc] at h1
   obtain ⟨rfl, rfl⟩ : l = x ∧ r = y := by simpa using h1
   have hi : index (l ++ 10 :: r) [10] = (l.length : Int) := by rw [← h2]; exact index_one _ _
   rw [splitK, if_neg (by rw [hi]; simp), hi]
   congr 1
   · rw [Int.toNat_natCast, List.take_append]; simp [List.take_of_length_le]
   · rw [Int.toNat_natCast]; congr 1
theorem splitK_lines (ks : List Int) : ∀ (cs : List Co) (i : Nat), (∀ c ∈ cs, coOk c = true) → splitK [10] 1 cs.length (scLines ks i cs) = (scLs ks i cs).map (· ++ [10]) ++ [[]]
  | [], i, h => rfl
  | c :: r, i, h => by
   rw [scLines, List.length_cons, splitK_line _ (coLine_no _ (h c (by simp))), splitK_lines ks r (i + 1) fun d hd => h d (by simp [hd]), scLs]; rfl
def linesE (ks : List Int) (cs : List Co) : List ByteArray := ((scLs ks 0 cs).map fun l => (⟨(l ++ [10]).toArray⟩ : ByteArray)) ++ [⟨#[]⟩]
theorem linesE_len (ks : List Int) (cs : List Co) : (linesE ks cs).length = cs.length + 1 := by
 unfold linesE
 rw [List.length_append, List.length_map, scLs_len]; rfl
theorem splitB_lines {ks : List Int} {cs : List Co} {S : ByteArray} (h : ∀ c ∈ cs, coOk c = true) (hS : S.data.toList = scLines ks 0 cs) : splitB ⟨#[10]⟩ 1 cs.length S = linesE ks cs := by
 have hd := splitB_data ⟨#[10]⟩ 1 cs.length S; have hs : (ByteArray.mk #[10]).data.toList = [10] := rfl; rw [hs, hS, splitK_lines ks cs 0 h] at hd
 have hb : ∀ (b : ByteArray) (l : Bs), b.data.toList = l → b = ⟨l.toArray⟩ := fun b l e => by subst e; cases b; simp
 have key : ∀ (bs : List ByteArray) (ls : List Bs), bs.map (fun b => b.data.toList) = ls → bs = ls.map fun l => (⟨l.toArray⟩ : ByteArray) := by
  intro bs
  induction bs with
  | nil => intro ls e; subst e; rfl
  | cons b t ih =>
   intro ls e
   cases ls with
   | nil => simp at e
   | cons l r =>
    rw [List.map_cons, List.cons.injEq] at e; rw [List.map_cons, ← ih r e.2, ← hb b l e.1]
 rw [key _ _ hd]; unfold linesE; rw [List.map_append, List.map_map]; rfl
theorem scLs_at (ks : List Int) : ∀ (cs : List Co) (i k : Nat) (c : Co), cs[k]? = some c → (scLs ks i cs)[k]? = some (coLine (ks.contains ((i + k : Nat) : Int)) c)
  | [], i, k, c, h => by simp at h
  | a :: t, i, 0, c, h => by
   have h : a = c := by simpa using h
   subst h; rfl
  | a :: t, i, k + 1, c, h => by
   rw [scLs, List.getElem?_cons_succ, scLs_at ks t (i + 1) k c (by simpa using h)]; rw [show i + 1 + k = i + (k + 1) by omega]
theorem linesE_at {ks : List Int} {cs : List Co} {k : Nat} {c : Co} (h : cs[k]? = some c) : (linesE ks cs)[k]? = some ⟨(coLine (ks.contains (k : Int)) c ++ [10]).toArray⟩ := by
 have := scLs_at ks cs 0 k c h; rw [Nat.zero_add] at this; have hl := (List.getElem?_eq_some_iff.1 h).1; unfold linesE; rw [List.getElem?_append_left (by rw [List.length_map, scLs_len]; exact hl), List.getElem?_map, this]; rfl
theorem but_lines_snoc (ks : List Int) (k : Nat) : ∀ (cs : List Co) (i : Nat) (c : Co), linesBut ks k i (cs ++ [c]) = linesBut ks k i cs ++ (if i + cs.length = k then [] else coLine (ks.contains ((i + cs.length : Nat) : Int)) c ++ [10])
  | [], i, c => by rw [List.nil_append, linesBut, linesBut, linesBut, List.append_nil, List.nil_append]; rfl
  | a :: t, i, c => by
   rw [List.cons_append, linesBut, linesBut, but_lines_snoc ks k t (i + 1) c, List.length_cons, show i + 1 + t.length = i + (t.length + 1) by omega]
   simp [List.append_assoc]
theorem but_lines_len (ks : List Int) (k : Nat) : ∀ (cs : List Co) (i : Nat), (linesBut ks k i cs).length ≤ (scLines ks i cs).length
  | [], i => Nat.le_refl _
  | a :: t, i => by
   have := but_lines_len ks k t (i + 1); rw [linesBut, scLines]
   split <;> simp <;> omega
theorem lines_take_len (ks : List Int) (cs : List Co) (n : Nat) : ∀ i, (scLines ks i (cs.take n)).length ≤ (scLines ks i cs).length := by
 induction cs generalizing n with
 | nil => intro i; simp
 | cons a t ih =>
  intro i
  cases n with
  | zero => simp [scLines]
  | succ n =>
   have := ih n (i + 1); rw [List.take_succ_cons, scLines, scLines]
   simp; omega
end Go.Ms
set_option linter.unusedSimpArgs false
namespace Go.Proofs.YthlinmkengoliaaGreatDoor
open Go.RowKit Go.Ms Go.Lib
set_option maxRecDepth 100000 in
theorem splitafter_any {S : ByteArray} {ks : List Int} {cs : List Co} {N : Nat} (w : World) (hs : S.size ≤ 100000) (h : ∀ c ∈ cs, coOk c = true) (hS : S.data.toList = scLines ks 0 cs) (hN : cs.length = N) (hC : S.data.toList.count 10 = N) (hE : Env w) :
    Calls Tryz.prog 31 #[.string S, .string ⟨#[10]⟩] w fun e w' => e = .returned (.slice (some ⟨w.heap.size, 0, none⟩) (N + 1) (N + 1)) ∧ w'.heap[w.heap.size]? = some (.cells ((linesE ks cs).map Value.string).toArray 9 (0, 0)) ∧ Below w.heap.size w w' := by
 obtain ⟨m, hm⟩ := hE.maxl
 have hcb : countB S ⟨#[10]⟩ = N := by rw [← hC]; exact count_one 10 S.data.toList
 have hle : N ≤ S.size := by have := List.count_le_length (a := (10 : UInt8)) (l := S.data.toList); rw [hC] at this; simpa using this
 have hg := Tryz.strings_genSplit S ⟨#[10]⟩ 1 (-1) (N + 1) m w (by omega) hm (by decide) (by decide) (by decide) (by decide) (by rw [if_pos (by decide), hcb]; omega); rw [Nat.add_sub_cancel, ← hN, splitB_lines h hS, linesE_len, hN] at hg
 have hcell : cellsOf (linesE ks cs) (N + 1) = ((linesE ks cs).map Value.string).toArray := by rw [← hN, ← linesE_len ks cs]; exact cellsOf_full _
 rw [hcell] at hg; have HG := Lib.hid hg; clear hg hcell hcb hle hm hE h hS hC hN
 go_enter Tryz.func31, Tryz.ntmps31
 go_wp2_with fail
 refine HG.out.mono ?_; rintro en w1 ⟨rfl, hw⟩; rw [hw]; clear hw
 go_wp2_with fail
 go_ret
 exact ⟨rfl, block_new _ _, (Below.refl _ _).alloc (Nat.le_refl _) _⟩
end Go.Proofs.YthlinmkengoliaaGreatDoor
set_option linter.unusedSimpArgs false
namespace Go.Ms
open Go.RowKit Go.Lib
structure LfSt (tS tC tI : TypeId) (w : World) (v1 v2 : Value) (cs : List Co) (ks : List Int) (wr : World) : Prop where
  b : wr.heap[w.heap.size]? = some (.cells #[v1, v2] tS (0, 0))
  o1 : OwnCo wr (w.heap.size + 1) tC v1 cs
  o2 : OwnI wr (w.heap.size + 1) tI v2 ks
  bel : Below w.heap.size w wr
  hi : w.heap.size + 1 ≤ wr.heap.size
section
variable {tS tC tI : TypeId} {w : World} {v1 v2 : Value} {cs : List Co} {ks : List Int} {wr : World}
theorem LfSt.new (w : World) : LfSt tS tC tI w (.slice none 0 0) (.slice none 0 0) [] [] (w.alloc (.cells #[.slice none 0 0, .slice none 0 0] tS)) :=
  ⟨block_new _ _, World.ownsRow_nil _ _ _ _, World.ownsRow_nil _ _ _ _, (Below.refl _ w).alloc (Nat.le_refl _) _, by rw [World.size_alloc]; exact Nat.le_refl _⟩
theorem LfSt.step {w' : World} (h : LfSt tS tC tI w v1 v2 cs ks wr) (hb : Below wr.heap.size wr w') : LfSt tS tC tI w v1 v2 cs ks w' :=
  ⟨block_kept h.b hb, own_below h.o1 hb, own_below h.o2 hb, h.bel.trans (hb.mono h.bel.size), Nat.le_trans h.hi hb.size⟩
theorem LfSt.after2 (h : LfSt tS tC tI w v1 v2 cs ks wr) {W' : World} (hg : wr.grownBy W' v2.ownBlock) : W'.heap[w.heap.size]? = some (.cells #[v1, v2] tS (0, 0)) :=
  (hg.block _ (Array.getElem?_eq_some_iff.1 h.b).1 (fun e => by have := (World.ownsRow.lt h.o2 _ e.symm).1; omega)).trans h.b
theorem LfSt.after1 (h : LfSt tS tC tI w v1 v2 cs ks wr) {W' : World} (hg : wr.grownBy W' v1.ownBlock) : W'.heap[w.heap.size]? = some (.cells #[v1, v2] tS (0, 0)) :=
  (hg.block _ (Array.getElem?_eq_some_iff.1 h.b).1 (fun e => by have := (World.ownsRow.lt h.o1 _ e.symm).1; omega)).trans h.b
theorem LfSt.keys (h : LfSt tS tC tI w v1 v2 cs ks wr) (hne : tC ≠ tI) {W' : World} {v2' : Value} {k : Int} (hown : W'.ownsRow (w.heap.size + 1) tI 1 v2' (ks.length + 1) (intV ks ++ intV [k])) (hg : wr.grownBy W' v2.ownBlock) : LfSt tS tC tI w v1 v2' cs (ks ++ [k]) (W'.setCell ⟨w.heap.size, 1, none⟩ v2') := by
 have ho2 : OwnI W' (w.heap.size + 1) tI v2' (ks ++ [k]) := by
  unfold OwnI; rw [List.length_append, intV_app]; exact hown
 exact ⟨two_set1 (h.after2 hg) _, own_set' (World.ownsRow.kept h.o1 hg (own_apart h.o1 h.o2 hne)) (by omega) _, own_set' ho2 (by omega) _, (own_grown h.o2 h.bel h.bel.size (by omega) hg).setCell (p := ⟨w.heap.size, 1, none⟩) (Nat.le_refl _) _, by simp only [World.size_setCell]; exact Nat.le_trans h.hi hg.size⟩
theorem LfSt.cols (h : LfSt tS tC tI w v1 v2 cs ks wr) (hne : tC ≠ tI) {W' : World} {v1' : Value} {c : Co} (hown : W'.ownsRow (w.heap.size + 1) tC 7 v1' (cs.length + 1) (colV cs ++ coV c)) (hg : wr.grownBy W' v1.ownBlock) : LfSt tS tC tI w v1' v2 (cs ++ [c]) ks (W'.setCell ⟨w.heap.size, 0, none⟩ v1') := by
 have ho2 : OwnCo W' (w.heap.size + 1) tC v1' (cs ++ [c]) := by
  unfold OwnCo; rw [List.length_append, colV_app, show colV [c] = coV c by simp [colV]]; exact hown
 exact ⟨two_set0 (h.after1 hg) _, own_set' ho2 (by omega) _, own_set' (World.ownsRow.kept h.o2 hg (own_apart h.o2 h.o1 (Ne.symm hne))) (by omega) _, (own_grown h.o1 h.bel h.bel.size (by omega) hg).setCell (p := ⟨w.heap.size, 0, none⟩) (Nat.le_refl _) _, by simp only [World.size_setCell]; exact Nat.le_trans h.hi hg.size⟩
end
theorem but_lines_one (ks : List Int) : ∀ (cs : List Co), cs.length = 1 → linesBut ks 0 0 cs = []
  | [c], _ => by rw [linesBut, if_pos rfl]; rfl
theorem erase_snoc {α : Type} (l : List α) (x : α) (k : Nat) : (l ++ [x]).eraseIdx k = l.eraseIdx k ++ (if l.length = k then [] else [x]) := by
 by_cases h : k < l.length
 · rw [List.eraseIdx_append_of_lt_length h, if_neg (by omega)]
 · rw [List.eraseIdx_append_of_length_le (by omega), List.eraseIdx_of_length_le (l := l) (by omega)]
   by_cases e : l.length = k
   · rw [if_pos e, show k - l.length = 0 by omega]; rfl
   · rw [if_neg e, List.eraseIdx_of_length_le (l := [x]) (by simp; omega)]
end Go.Ms
namespace Go.Proofs.YthlinmkengoliaaGreatDoor
open Go.RowKit Go.Ms Go.Lib
set_option maxRecDepth 100000 in
set_option maxHeartbeats 16000000 in
theorem schemaLeft_walk (A : Option Addr) (n c : Nat) (l : List Sd5) (q : Int) (v : Int) (w : World) (hc : n ≤ c) (kc : c ≤ maxLen) (ll : l.length = n) (ex : Ext w w.heap.size A (sdL l)) (ok : ∀ x ∈ l, SdIn x) (hq : I64 q) (hv : (Lit.int .i64 v).wf = true) (hE : Env w) :
    Calls Tryz.prog 9 #[.agg #[.slice A n c, .int .i64 q], .int .i64 v] w fun e w' => e = .returned (.bool true) ∧ Below w.heap.size w w' := by
 obtain ⟨ic, ci, cz0, cz1, cz2⟩ := info_parts column_info; obtain ⟨ii, ki, kz0, kz1, kz2⟩ := info_parts int_info; obtain ⟨cs, ks, hm⟩ : ∃ cs ks, sdMade l q = (cs, ks) := ⟨_, _, rfl⟩; have so := seed_ok hm
 have hmd := fun w1 (h : Below w.heap.size w w1) => made_is (w := w1) hm hc kc ll ((ex.keep h).more h.size) ok hq
 obtain ⟨N, hN⟩ : ∃ N, cs.length = N := ⟨_, rfl⟩; obtain ⟨M, hM⟩ : ∃ M, ks.length = M := ⟨_, rfl⟩
 have hz : 1 ≤ N ∧ N ≤ 16 ∧ M ≤ 8 := by have := so.ok.one; have := so.most; have := so.keys; omega
 obtain ⟨TX, hTX⟩ : ∃ t : ByteArray, t = ⟨(scText cs ks).toArray⟩ := ⟨_, rfl⟩
 have htl : TX.data.toList = scText cs ks := by rw [hTX]
 have hts : TX.size ≤ 2000 := by have e : TX.data.toList.length = TX.size := by simp
                                 rw [htl] at e; have := so.small; omega
 have htx := fun wq A3 c3 K3 d3 (h : ScL wq A3 K3 cs ks) (hb : Below w.heap.size w wq) => sctext_any wq A3 K3 N c3 M d3 cs ks so.sizes (by omega) (by omega) hN.symm hM.symm h.a h.b (hE.below hb)
 rw [← hTX, so.check] at htx
 have hlines : scText cs ks = scLines ks 0 cs := by unfold scText; rw [if_pos ((scOk_iff _ _).2 so.ok)]
 have hsp := fun wq (hb : Below w.heap.size w wq) => splitafter_any (S := TX) (ks := ks) (cs := cs) (N := N) wq (by omega) (fun c hc => (sc_each so.ok c hc).1) (by rw [htl, hlines]) hN (by rw [htl, so.count, hN]) (hE.below hb)
 have hvb := I64.of hv
 have hbr := fun wq => bringI_any v N hvb.1 hvb.2 (by omega) (by omega) wq
 obtain ⟨k, hk⟩ : ∃ k : Nat, v % (N : Int) = (k : Int) := ⟨(v % (N : Int)).toNat, by have := Int.emod_nonneg v (b := (N : Int)) (by omega); omega⟩
 have hkN : k < N := by have := Int.emod_lt_of_pos v (b := (N : Int)) (by omega); omega
 rw [hk] at hbr; rw [hN, hM] at hmd; have hb0 : Below w.heap.size w (w.alloc (.cells #[.slice A n c, .int .i64 q] 24)) := (Below.refl _ w).alloc (Nat.le_refl _) _; have q0 := block_new w (.cells #[.slice A n c, .int .i64 q] 24); have y0 := cell_of_block (i := 0) q0 rfl; have y1 := cell_of_block (i := 1) q0 rfl
 have HMD := Lib.hid hmd; have HTX := Lib.hid htx; have HSP := Lib.hid hsp; have HBR := Lib.hid hbr; have HE := Lib.hid hE; have B0 := Lib.hid hb0; have SO := Lib.hid so; have HN := Lib.hid hN; have HM := Lib.hid hM; have HLN := Lib.hid hlines; have HZ := Lib.hid hz
 clear hmd htx hsp hbr hE hb0 q0 so hm hc kc ll ex ok hq hN hM hv hvb hlines htl hTX hts hk
 go_enter Tryz.func9, Tryz.ntmps9
 go_wp2_with fail
 refine (HMD.out _ B0.out).mono ?_; rintro en w2 ⟨A3, c3, K3, d3, rfl, o1, o2, b2⟩; obtain ⟨X, hX⟩ : ∃ X, X = w2.alloc (.cells #[.slice A3 N c3, .slice K3 M d3] 28) := ⟨_, rfl⟩
 have bx : Below w2.heap.size w2 X := by rw [hX]; exact (Below.refl _ _).alloc (Nat.le_refl _) _
 have q3 : X.heap[w2.heap.size]? = some (.cells #[.slice A3 N c3, .slice K3 M d3] 28 (0, 0)) := by rw [hX]; exact block_new _ _
 have B2 := Lib.hid ((B0.out.trans (b2.mono B0.out.size)).trans (bx.mono (B0.out.trans (b2.mono B0.out.size)).size)); have S2 := Lib.hid ((ScL.own o1 o2).below bx); have Q3 := Lib.hid q3
 clear b2 bx o1 o2 y0 y1 B0 q3
 go_upto_region 2 with fail
 rw [← hX]
 generalize w2.heap.size = sb at Q3 ⊢
 clear hX; have y0 := cell_of_block (i := 0) Q3.out rfl; have y1 := cell_of_block (i := 1) Q3.out rfl
 go_wp2_with fail
 refine (HTX.out _ _ _ _ _ S2.out B2.out).mono ?_; rintro en w3 ⟨rfl, b3⟩
 have B3 := Lib.hid (B2.out.trans (b3.mono B2.out.size)); have S3 := Lib.hid (S2.out.below b3); have Q4 := Lib.hid (block_kept Q3.out b3)
 clear b3 y0 y1 B2 S2 Q3
 go_wp2_with fail
 refine (HSP.out _ B3.out).mono ?_; rintro en w4 ⟨rfl, q5, b4⟩
 have B4 := Lib.hid (B3.out.trans (b4.mono B3.out.size)); have S4 := Lib.hid (S3.out.below b4); have Q5 := Lib.hid (block_kept Q4.out b4); have L5 := Lib.hid q5
 generalize w3.heap.size = lb at L5 ⊢
 clear b4 q5 B3 S3 Q4; have y0 := cell_of_block (i := 0) Q5.out rfl; have v1 : IntKind.i64.wrap ((N : Int) + 1) = (N : Int) + 1 := IntWalk.i64_in _ (by have := HZ.out; omega)
 go_wp2_with fail
 refine (HBR.out _).mono ?_; rintro en w5 ⟨rfl, b5⟩
 have B5 := Lib.hid (B4.out.trans (b5.mono B4.out.size)); have S5 := Lib.hid (S4.out.below b5); have Q6 := Lib.hid (block_kept Q5.out b5); have L6 := Lib.hid (block_kept L5.out b5)
 clear b5 y0 B4 S4 Q5 L5 v1
 go_wp2_with fail
 have hst0 := LfSt.new (tS := 28) (tC := 37) (tI := 3) w5
 go_loopw [11, 12] (fun s11 s12 wr => ∃ (i : Nat) (v1 v2 : Value) (T : ByteArray), i ≤ N ∧ s12 = .int .i64 i ∧ s11 = .string T ∧ T.data.toList = linesBut ks k 0 (cs.take i) ∧ LfSt 28 37 3 w5 v1 v2 ((cs.take i).eraseIdx k) [] wr) (fun _ s12 _ => N - (RowKit.intOf s12).toNat)
 case atStart => exact ⟨0, .slice none 0 0, .slice none 0 0, ⟨#[]⟩, by omega, rfl, rfl, rfl, hst0⟩
 case round =>
  obtain ⟨i, v1, v2, T, hi, rfl, rfl, hT, hs⟩ := hrel; obtain ⟨A1, c1, rfl, _⟩ := yown_slice hs.o1; obtain ⟨A2, c2, rfl, _⟩ := yown_slice hs.o2; have hsb := block_kept Q6.out hs.bel; have x0 := cell_of_block (i := 0) hsb rfl; have x1 := cell_of_block (i := 1) hsb rfl; have p0 := cell_of_block (i := 0) hs.b rfl; have p1 := cell_of_block (i := 1) hs.b rfl; have f0 := frozen_of_block (i := 0) hs.b; have f1 := frozen_of_block (i := 1) hs.b
  by_cases hin : i < N
  · have t1 : (i : Int) < (N : Int) := by omega
    have t2 : decide ((i : Int) < (N : Int)) = true := by simp; omega
    obtain ⟨cc, hcc⟩ : ∃ c, cs[i]? = some c := ⟨_, List.getElem?_eq_getElem (by rw [HN.out]; omega)⟩
    have htk : cs.take (i + 1) = cs.take i ++ [cc] := by rw [List.take_add_one, hcc]; rfl
    have htl : (cs.take i).length = i := by rw [List.length_take, HN.out]; omega
    have her := erase_snoc (cs.take i) cc k; have hbs := but_lines_snoc ks k (cs.take i) 0 cc; rw [← htk, htl] at her hbs; rw [Nat.zero_add] at hbs
    have hmx : (linesBut ks k 0 (cs.take (i + 1))).length ≤ 2000 := by
     have h1 := but_lines_len ks k (cs.take (i + 1)) 0; have h2 := lines_take_len ks cs (i + 1) 0; have h3 := SO.out.small; rw [HLN.out] at h3; omega
    by_cases hik : i = k
    · rw [if_pos hik, List.append_nil] at her hbs
      have u1 : ((i : Int) == (k : Int)) = true := by simp; omega
      have u2 : (i : Int) = (k : Int) := by omega
      rw [← her] at hs; rw [← hbs] at hT
      have HS := Lib.hid hs; have HT := Lib.hid hT; have HIK := Lib.hid hik
      clear hs hT her hbs htk hik
      go_wp2_with fail
      exact ⟨⟨i + 1, _, _, T, by omega, by go_num, rfl, HT.out, HS.out⟩, by simp [RowKit.intOf]; omega⟩
    · rw [if_neg hik] at her hbs
      have u1 : ((i : Int) == (k : Int)) = false := by simp; omega
      have u2 : ¬ (i : Int) = (k : Int) := by omega
      have sl := S5.out.below (hs.bel); obtain ⟨g, o, hA3, hg, e0, e1, e2, e3, e4, e5, e6⟩ := Lay.co sl.a hcc; subst hA3; have hline := linesE_at (ks := ks) hcc; obtain ⟨LN, hLN⟩ : ∃ x : ByteArray, x = ⟨(coLine (ks.contains (i : Int)) cc ++ [10]).toArray⟩ := ⟨_, rfl⟩; rw [← hLN] at hline
      have hLNl : LN.data.toList = coLine (ks.contains (i : Int)) cc ++ [10] := by rw [hLN]
      have hT' : (T ++ LN).data.toList = linesBut ks k 0 (cs.take (i + 1)) := by rw [hbs, ByteArray.data_append, Array.toList_append, hT, hLNl]
      have hsum : T.size + LN.size ≤ 2000 := by
       have e : (T ++ LN).data.toList.length = T.size + LN.size := by simp
       rw [hT'] at e; omega
      have zc : (((linesE ks cs).map Value.string).toArray)[i]? = some (.string LN) := by simp [hline]
      have hmax : ((cs.take i).eraseIdx k).length + 1 ≤ maxLen := by unfold maxLen; have := List.length_eraseIdx_le (cs.take i) k; omega
      have hbyt : (((cs.take i).eraseIdx k).length + 1) * 72 ≤ 140737488355328 := by have := List.length_eraseIdx_le (cs.take i) k; omega
      obtain ⟨i0, s0, ⟨k0, u0⟩, n0, m0, t0⟩ := cc
      generalize (cs.take i).eraseIdx k = es at hs her hmax hbyt p0
      have ha : Below wr.heap.size wr (wr.alloc (.cells (coV ((i0, s0, (k0, u0), n0, m0, t0) : Co)).toArray 37)) := (Below.refl _ wr).alloc (Nat.le_refl _) _; have hd : Below wr.heap.size wr (wr.alloc (.cells (coV ((i0, s0, (k0, u0), n0, m0, t0) : Co)).toArray 37)).drew := ms_drewN ha 1; have S8 := Lib.hid (hs.step hd); have Q8 := Lib.hid ((lay_new wr (coV ((i0, s0, (k0, u0), n0, m0, t0) : Co)) 37).below (w' := (wr.alloc (.cells (coV ((i0, s0, (k0, u0), n0, m0, t0) : Co)).toArray 37)).drew) (ms_drewN (Below.refl _ _) 1))
      have p8 : (wr.alloc (.cells #[.int .i64 i0, .string s0, .int .i64 k0, .bool u0, .bool n0, .int .i64 m0, .string t0] 37)).cell? ⟨w5.heap.size, 0, none⟩ = some (.slice A1 es.length c1) := cell_of_block (i := 0) (hs.step ha).b rfl; clear ha
      have HMAX := Lib.hid hmax; have HBYT := Lib.hid hbyt; have HER := Lib.hid her; have HT := Lib.hid hT'; have ZC := Lib.hid zc; have HSUM := Lib.hid hsum; have HIK := Lib.hid hik
      simp only at e0 e1 e2 e3 e4 e5 e6; clear hmax hbyt her hbs hT' hT zc hsum hline hLN hLNl hik htk hd sl hs f0 f1 hmx hsb hcc
      go_upto_region 13 with fail
      go_cut [] (fun wx => ∃ A9 c9, LfSt 28 37 3 w5 (.slice A9 (es.length + 1) c9) (.slice A2 0 c2) (es ++ [((i0, s0, (k0, u0), n0, m0, t0) : Co)]) [] wx)
      case first =>
       go_region_law (refine step_append_lay rfl (.tmp 53) (.tmp 59) 25 rfl (w5.heap.size + 1) 37 ic _ 7 72 under_cols ci cz0 cz1 cz2 rfl (by omega) (.slice A1 es.length c1) es.length (colV es) rfl S8.out.o1 _ (some ⟨wr.heap.size, 0, none⟩) 1 1 (coV ((i0, s0, (k0, u0), n0, m0, t0) : Co)) rfl rfl Q8.out (coV_one _) HMAX.out HBYT.out S8.out.hi ?_; intro v3 w9 own3 hg3; (obtain ⟨A9, c9, hv3, _⟩ := yown_slice own3); subst hv3; (have hz := S8.out.after1 hg3); (have y0 := cell_of_block (i := 0) hz rfl); (have f0 := frozen_of_block (i := 0) hz); (have OWN3 := Lib.hid own3); (have HG3 := Lib.hid hg3); clear hz own3 hg3)
       all_goals
        go_wp2_with fail
        go_meet
        exact ⟨A9, c9, S8.out.cols (by decide) OWN3.out HG3.out⟩
      case rest =>
       obtain ⟨A9, c9, hs⟩ := hcut; have zl := cell_of_block (block_kept L6.out hs.bel) ZC.out
       have l1 : (i : Int) < (N : Int) + 1 := by omega
       have l2 : i < N + 1 := by omega
       have o1 : ¬ (9223372036854775807 < T.size + LN.size) := by have := HSUM.out; omega
       have HS := Lib.hid hs; clear hs x0 x1 p0 p1 p8 e0 e1 e2 e3 e4 e5 e6
       go_wp2_with fail
       refine ⟨⟨i + 1, .slice A9 (es.length + 1) c9, .slice A2 0 c2, T ++ LN, by omega, by go_num, rfl, HT.out, ?_⟩, by simp [RowKit.intOf]; omega⟩; rw [HER.out]; exact HS.out
  · obtain rfl : i = N := by omega
    have htk : cs.take i = cs := List.take_of_length_le (by rw [HN.out]; exact Nat.le_refl _); rw [htk] at hs hT p0; obtain ⟨es, hes⟩ : ∃ es, es = cs.eraseIdx k := ⟨_, rfl⟩; rw [← hes] at hs p0
    have t1 : ¬ (i : Int) < (i : Int) := by omega
    have HS := Lib.hid hs; have HT := Lib.hid hT; have HES := Lib.hid hes
    clear hs hT hes htk f0 f1
    go_wp2_with fail
    go_loopw [13] (fun s13 wr => ∃ (j : Nat) (v2 : Value), j ≤ M ∧ s13 = .int .i64 j ∧ LfSt 28 37 3 w5 (.slice A1 es.length c1) v2 es (keysBut (ks.take j) k) wr) (fun s13 _ => M - (RowKit.intOf s13).toNat)
    case atStart => exact ⟨0, _, by omega, rfl, HS.out⟩
    case round =>
     clear x0 x1 p0 p1 HS; obtain ⟨j, v2, hj, rfl, hs⟩ := hrel; obtain ⟨A2, c2, rfl, _⟩ := yown_slice hs.o2; have hsb := block_kept Q6.out hs.bel; have x0 := cell_of_block (i := 0) hsb rfl; have x1 := cell_of_block (i := 1) hsb rfl; have p0 := cell_of_block (i := 0) hs.b rfl; have p1 := cell_of_block (i := 1) hs.b rfl; have f0 := frozen_of_block (i := 0) hs.b; have f1 := frozen_of_block (i := 1) hs.b
     by_cases hjM : j < M
     · have t1 : (j : Int) < (M : Int) := by omega
       have t2 : decide ((j : Int) < (M : Int)) = true := by simp; omega
       obtain ⟨x, hx⟩ : ∃ x, ks[j]? = some x := ⟨_, List.getElem?_eq_getElem (by rw [HM.out]; omega)⟩
       have htk : ks.take (j + 1) = ks.take j ++ [x] := by rw [List.take_add_one, hx]; rfl
       have hbs := but_snoc (ks.take j) x k; rw [← htk] at hbs; have hkin := SO.out.ok.kin j x hx
       have hml : (keysBut (ks.take j) k).length ≤ 8 := by
        have h1 := but_len (ks.take j) k; have h2 := List.length_take_le j ks; have h3 := SO.out.keys
        have h4 : (ks.take j).length ≤ ks.length := by rw [List.length_take]; omega
        omega
       have sl := S5.out.below hs.bel; obtain ⟨g2, o2, hK3, hg2, hcell⟩ := Lay.some_ sl.b (by rw [intV_len, HM.out]; omega); subst hK3; have e0 := hcell j (.int .i64 x) (by simp [intV, hx]); clear hcell sl htk hsb
       generalize keysBut (ks.take j) k = kb at hs hbs hml p1
       have hmax : kb.length + 1 ≤ maxLen := by unfold maxLen; omega
       have hbyt : (kb.length + 1) * 8 ≤ 140737488355328 := by omega
       have HMAX := Lib.hid hmax; have HBYT := Lib.hid hbyt
       clear hmax hbyt
       have hbN : x < (i : Int) := by have := hkin.2; rw [HN.out] at this; exact this
       have hx0 := hkin.1; clear hkin
       by_cases c1' : x < (k : Int)
       · rw [if_pos c1'] at hbs
         have u1 : decide (x < (k : Int)) = true := by simp; omega
         have HKB := Lib.hid hbs; clear hbs; have ha : Below wr.heap.size wr (wr.alloc (.cells (intV [x]).toArray 3)) := (Below.refl _ wr).alloc (Nat.le_refl _) _; have hd : Below wr.heap.size wr (wr.alloc (.cells (intV [x]).toArray 3)).drew := ms_drewN ha 1; have S8 := Lib.hid (hs.step hd); have Q8 := Lib.hid ((lay_new wr (intV [x]) 3).below (w' := (wr.alloc (.cells (intV [x]).toArray 3)).drew) (ms_drewN (Below.refl _ _) 1)); have p8 : (wr.alloc (.cells #[.int .i64 (x)] 3)).cell? ⟨w5.heap.size, 1, none⟩ = some (.slice A2 kb.length c2) := cell_of_block (i := 1) (hs.step ha).b rfl; clear ha hd
         have HS := Lib.hid hs; clear hs f0 f1
         go_upto_region 19 with fail
         refine wp_inblock ?_
         go_cut [] (fun wx => ∃ A9 c9, LfSt 28 37 3 w5 (.slice A1 es.length c1) (.slice A9 (kb.length + 1) c9) es (kb ++ [x]) wx)
         case first =>
          go_region_law (refine step_append_lay rfl (.tmp 83) (.tmp 89) 26 rfl (w5.heap.size + 1) 3 ii _ 1 8 under_ints ki kz0 kz1 kz2 rfl (by omega) (.slice A2 kb.length c2) kb.length (intV kb) rfl S8.out.o2 _ (some ⟨wr.heap.size, 0, none⟩) 1 1 (intV [x]) rfl rfl Q8.out (intV_one _) HMAX.out HBYT.out S8.out.hi ?_; intro v3 w9 own3 hg3; (obtain ⟨A9, c9, hv3, _⟩ := yown_slice own3); subst hv3; (have hz := S8.out.after2 hg3); (have y1 := cell_of_block (i := 1) hz rfl); (have f1 := frozen_of_block (i := 1) hz); (have OWN3 := Lib.hid own3); (have HG3 := Lib.hid hg3); clear hz own3 hg3)
          all_goals
           go_wp2_with fail
           go_meet
           exact ⟨A9, c9, S8.out.keys (by decide) OWN3.out HG3.out⟩
         case rest =>
          obtain ⟨A9, c9, hs2⟩ := hcut; have HS2 := Lib.hid hs2; clear hs2 x0 x1 p0 p1 p8 e0
          go_wp2_with fail
          refine ⟨⟨j + 1, .slice A9 (kb.length + 1) c9, by omega, by go_num, ?_⟩, by simp [RowKit.intOf]; omega⟩; rw [HKB.out]; exact HS2.out
       · rw [if_neg c1'] at hbs
         have u1 : decide (x < (k : Int)) = false := by simp; omega
         by_cases c2' : (k : Int) < x
         · rw [if_pos c2'] at hbs
           have u2 : decide ((k : Int) < x) = true := by simp; omega
           have hw : IntKind.i64.wrap (x - 1) = x - 1 := IntWalk.i64_in _ (by have := HZ.out; omega); have HKB := Lib.hid hbs; clear hbs; have ha : Below wr.heap.size wr (wr.alloc (.cells (intV [x - 1]).toArray 3)) := (Below.refl _ wr).alloc (Nat.le_refl _) _; have hd : Below wr.heap.size wr (wr.alloc (.cells (intV [x - 1]).toArray 3)).drew := ms_drewN ha 1; have S8 := Lib.hid (hs.step hd); have Q8 := Lib.hid ((lay_new wr (intV [x - 1]) 3).below (w' := (wr.alloc (.cells (intV [x - 1]).toArray 3)).drew) (ms_drewN (Below.refl _ _) 1))
           have p8 : (wr.alloc (.cells #[.int .i64 (x - 1)] 3)).cell? ⟨w5.heap.size, 1, none⟩ = some (.slice A2 kb.length c2) := cell_of_block (i := 1) (hs.step ha).b rfl; clear ha hd; have HS := Lib.hid hs; clear hs f0 f1
           go_upto_region 21 with fail
           refine wp_inblock ?_
           go_cut [] (fun wx => ∃ A9 c9, LfSt 28 37 3 w5 (.slice A1 es.length c1) (.slice A9 (kb.length + 1) c9) es (kb ++ [x - 1]) wx)
           case first =>
            go_region_law (refine step_append_lay rfl (.tmp 100) (.tmp 107) 26 rfl (w5.heap.size + 1) 3 ii _ 1 8 under_ints ki kz0 kz1 kz2 rfl (by omega) (.slice A2 kb.length c2) kb.length (intV kb) rfl S8.out.o2 _ (some ⟨wr.heap.size, 0, none⟩) 1 1 (intV [x - 1]) rfl rfl Q8.out (intV_one _) HMAX.out HBYT.out S8.out.hi ?_; intro v3 w9 own3 hg3; (obtain ⟨A9, c9, hv3, _⟩ := yown_slice own3); subst hv3; (have hz := S8.out.after2 hg3); (have y1 := cell_of_block (i := 1) hz rfl); (have f1 := frozen_of_block (i := 1) hz); (have OWN3 := Lib.hid own3); (have HG3 := Lib.hid hg3); clear hz own3 hg3)
            all_goals
             go_wp2_with fail
             go_meet
             exact ⟨A9, c9, S8.out.keys (by decide) OWN3.out HG3.out⟩
           case rest =>
            obtain ⟨A9, c9, hs2⟩ := hcut; have HS2 := Lib.hid hs2; clear hs2 x0 x1 p0 p1 p8 e0
            go_wp2_with fail
            refine ⟨⟨j + 1, .slice A9 (kb.length + 1) c9, by omega, by go_num, ?_⟩, by simp [RowKit.intOf]; omega⟩; rw [HKB.out]; exact HS2.out
         · rw [if_neg c2', List.append_nil] at hbs
           have u2 : decide ((k : Int) < x) = false := by simp; omega
           have HKB := Lib.hid hbs; have HS := Lib.hid hs; clear hbs hs f0 f1
           go_wp2_with fail
           refine ⟨⟨j + 1, .slice A2 kb.length c2, by omega, by go_num, ?_⟩, by simp [RowKit.intOf]; omega⟩; rw [HKB.out]; exact HS.out
     · obtain rfl : j = M := by omega
       have htk : ks.take j = ks := List.take_of_length_le (by rw [HM.out]; exact Nat.le_refl _); rw [htk] at hs p1; obtain ⟨kb, hkb⟩ : ∃ kb, kb = keysBut ks k := ⟨_, rfl⟩; rw [← hkb] at hs p1
       have hesl : es.length = i - 1 := by rw [HES.out, List.length_eraseIdx_of_lt (by rw [HN.out]; exact hkN), HN.out]
       have t1 : ¬ (j : Int) < (j : Int) := by omega
       have hbel := B5.out.trans (hs.bel.mono B5.out.size); have HB := Lib.hid hbel; have hz := HZ.out; clear f0 f1 htk hbel
       by_cases h1 : i = 1
       · have hk0 : k = 0 := by omega
         have hT0 : T = ⟨#[]⟩ := by
          have h2 := HT.out; rw [hk0, but_lines_one ks cs (by rw [HN.out]; exact h1)] at h2; exact ba_ext h2
         have hf := fails_yes (S := ⟨#[]⟩) (w := wr) (n := 0) (er := 2) (line := 0) (by decide) (HE.out.below HB.out) pd_f4 rfl
         have u1 : (es.length == 0) = true := by rw [beq_iff_eq]; omega
         have u2 : ((es.length : Int) == 0) = true := by rw [beq_iff_eq]; omega
         have u3 : es.length = 0 := by omega
         have u4 : es = [] := List.eq_nil_of_length_eq_zero u3; rw [u3] at p0; rw [hT0]; have HF := Lib.hid hf; clear hf hT0 hs hesl u4 u3 u1 u2 hkb HT
         go_wp2_with fail
         refine HF.out.mono ?_; rintro en w7 ⟨rfl, b7⟩; have HB7 := Lib.hid (HB.out.trans (b7.mono HB.out.size)); clear b7
         go_wp2_with fail
         refine (works_any _ (HE.out.below HB7.out)).mono ?_; rintro en w8 ⟨rfl, b8⟩; have HB8 := Lib.hid (HB7.out.trans (b8.mono HB7.out.size)); clear b8
         go_wp2_with fail
         go_ret
         exact ⟨rfl, HB8.out⟩
       · have hok2 := but_ok SO.out.ok (k := k) (by rw [HN.out]; exact hkN) (by rw [HN.out]; omega); have htx2 := but_text SO.out.ok (k := k) (by rw [HN.out]; exact hkN) (by rw [HN.out]; omega); rw [← HES.out, ← hkb] at hok2 htx2
         have hTs : T.data.toList = scText es kb := by rw [htx2]; exact HT.out
         have hTl : T.size ≤ 2000 := by
          have e : T.data.toList.length = T.size := by simp
          have h1 := but_lines_len ks k cs 0; have h3 := SO.out.small; rw [HLN.out] at h3; rw [HT.out] at e; omega
         have hp2 := text_parse ((scOk_iff _ _).2 hok2) (by rw [← hTs]; have e : T.data.toList.length = T.size := by simp
                                                            omega)
         rw [← hTs] at hp2; obtain ⟨en, hen⟩ : ∃ e, es.length = e := ⟨_, rfl⟩; obtain ⟨kn, hkn⟩ : ∃ e, kb.length = e := ⟨_, rfl⟩; have hps := parse_is (S := T) (w := wr) (by omega) (HE.out.below HB.out) hp2 hen hkn (l := 0) rfl; simp only at hps
         have hkn8 : kn ≤ 8 := by have := hok2.keys; omega
         rw [hen] at hs p0 hesl; rw [hkn] at hs p1
         have hss := fun wq A7 c7 K7 d7 A8 c8 K8 d8 (h : ScL wq A7 K7 es kb) (h' : ScL wq A8 K8 es kb) => rscsame_any wq A7 K7 A8 K8 en c7 kn d7 en c8 kn d8 es es kb kb (by unfold maxLen; omega) (by unfold maxLen; omega) (by unfold maxLen; omega) (by unfold maxLen; omega) hen.symm hkn.symm hen.symm hkn.symm h.a h.b h'.a h'.b
         simp only [decide_true, Bool.and_self] at hss
         have u1 : (en == 0) = false := by rw [beq_eq_false_iff_ne]; omega
         have u2 : ((en : Int) == 0) = false := by rw [beq_eq_false_iff_ne]; omega
         have u3 : ¬ en = 0 := by omega
         have HPS := Lib.hid hps; have HSS := Lib.hid hss; have HS := Lib.hid hs
         clear hps hss hs hesl hen hkn hp2 hTl hTs htx2 hok2 hkb HT
         go_wp2_with fail
         refine HPS.out.mono ?_; rintro en' w7 ⟨A7, K7, c7, d7, rfl, l1, l2, b7⟩; obtain ⟨Y, hY⟩ : ∃ Y, Y = w7.alloc (.cells #[.slice A7 en c7, .slice K7 kn d7] 28) := ⟨_, rfl⟩
         have by1 : Below w7.heap.size w7 Y := by rw [hY]; exact (Below.refl _ _).alloc (Nat.le_refl _) _
         have q7 : Y.heap[w7.heap.size]? = some (.cells #[.slice A7 en c7, .slice K7 kn d7] 28 (0, 0)) := by rw [hY]; exact block_new _ _
         have hs7 := (HS.out.step b7).step by1; have ho1 : OwnCo Y (w5.heap.size + 1) 37 (.slice A1 en c1) es := hs7.o1; have ho2 : OwnI Y (w5.heap.size + 1) 3 (.slice A2 kn c2) kb := hs7.o2
         have SA := Lib.hid ((ScL.mk l1 l2).below by1); have SB := Lib.hid (ScL.own ho1 ho2)
         have HB7 := Lib.hid ((HB.out.trans (b7.mono HB.out.size)).trans (by1.mono (HB.out.trans (b7.mono HB.out.size)).size))
         have QB := Lib.hid hs7.b; have QA := Lib.hid q7
         clear b7 by1 l1 l2 hs7 ho1 ho2 q7 x0 x1 p0 p1
         go_upto_region 25 with fail
         rw [← hY]
         generalize w7.heap.size = rb at QA ⊢
         clear hY; have y0 := cell_of_block (i := 0) QA.out rfl; have y1 := cell_of_block (i := 1) QA.out rfl; have z0 := cell_of_block (i := 0) QB.out rfl; have z1 := cell_of_block (i := 1) QB.out rfl
         go_wp2_with fail
         refine (HSS.out _ _ _ _ _ _ _ _ _ SA.out SB.out).mono ?_; rintro en' w8 ⟨rfl, b8⟩; have HB8 := Lib.hid (HB7.out.trans (b8.mono HB7.out.size)); clear b8 y0 y1 z0 z1
         go_wp2_with fail
         refine (works_any _ (HE.out.below HB8.out)).mono ?_; rintro en' w9 ⟨rfl, b9⟩; have HB9 := Lib.hid (HB8.out.trans (b9.mono HB8.out.size)); clear b9
         go_wp2_with fail
         go_ret
         exact ⟨rfl, HB9.out⟩
end Go.Proofs.YthlinmkengoliaaGreatDoor
