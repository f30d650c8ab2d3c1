/- Schemas: a text read. Schemas: a text read: the walk. Schemas: the examples, read (closed). Schemas: the examples, walked. Schemas: an argument's lists, read as such. Schemas: columns of one's own, stored; a schema cut. Schemas: names of whatever length; schemas that lie in memory. Schemas: a schema of one's own is spoilt, column by column, key by key. -/
import Derived.Test.YthlinmkengoliaaGreatDoorZSe
import Derived.Test.YthlinmkengoliaaGreatDoorZSg
import Derived.Test.YthlinmkengoliaaGreatDoorZSb
import Derived.Test.YthlinmkengoliaaGreatDoorZSa1
import Derived.Test.YthlinmkengoliaaGreatDoorZSa0
import Derived.WalkKit
import Derived.Test.YthlinmkengoliaaGreatDoorZYa
import Derived.Test.YthlinmkengoliaaGreatDoorZYb
import Derived.Deep.Slices
import Derived.Deep.Fields
import Derived.ChangeSame
import Derived.Lib.SmallJoins
import Derived.OpenShut
import Derived.Test.YthlinmkengoliaaGreatDoorZSa2
set_option linter.unusedVariables false
set_option linter.unusedSimpArgs false
namespace Go.Ms
open Go.RowKit Go.Lib
def readLs : List Co → List Int → List ByteArray → Option (List Co × List Int)
  | cs, ks, [] => some (cs, ks)
  | cs, ks, l :: r => match lineRead l.data.toList with
   | none => none
   | some x => readLs (cs ++ [x.1]) (if x.2 = true then ks ++ [(cs.length : Int)] else ks) r
theorem readLs_snoc {l : ByteArray} {x : Co × Bool} (hx : lineRead l.data.toList = some x) : ∀ (pre : List ByteArray) (cs cs' : List Co) (ks ks' : List Int), readLs cs ks pre = some (cs', ks') →
    readLs cs ks (pre ++ [l]) = some (cs' ++ [x.1], if x.2 = true then ks' ++ [(cs'.length : Int)] else ks')
  | [], cs, cs', ks, ks', h => by
   simp only [readLs, Option.some.injEq, Prod.mk.injEq] at h; obtain ⟨rfl, rfl⟩ := h; simp only [List.nil_append, readLs, hx]
  | a :: r, cs, cs', ks, ks', h => by
   rw [List.cons_append, readLs]; rw [readLs] at h
   cases ha : lineRead a.data.toList with
   | none => rw [ha] at h; cases h
   | some y =>
    rw [ha] at h; exact readLs_snoc hx r _ _ _ _ h
theorem strip_nl {l : Bs} : stripB 10 (l ++ [10]) = (l, true) := by
 unfold stripB; rw [if_pos (by simp), List.dropLast_concat]
theorem lineRead_end (l : Bs) : lineRead (l ++ [10]) = readCo l := by unfold lineRead; rw [strip_nl]; rfl
theorem lineRead_none {l : Bs} (h : (10 : UInt8) ∉ l) : lineRead l = none := by
 have h2 : ¬ l.getLast? = some 10 := fun e => h (List.mem_of_getLast? e)
 simp [lineRead, stripB, h2]
theorem readLs_all (t : Bs) (ht : (10 : UInt8) ∉ t) : ∀ (ls : List Bs) (cs : List Co) (ks : List Int),
    readLs cs ks ((ls.map (fun l => l ++ [10]) ++ (if t = [] then [] else [t])).map fun l => (⟨l.toArray⟩ : ByteArray)) =
      if ((readAll cs ks ls).2.2 && decide (t = [])) = true then some ((readAll cs ks ls).1, (readAll cs ks ls).2.1) else none
  | [], cs, ks => by
   by_cases h : t = []
   · subst h; simp [readLs, readAll]
   · simp only [h, List.map_nil, List.nil_append, if_false, List.map_cons, readLs, readAll, decide_false, Bool.and_false, Bool.false_eq_true]; rw [lineRead_none ht]
  | l :: ls, cs, ks => by
   rw [List.map_cons, List.cons_append, List.map_cons, readLs, readAll]
   have e : ∀ b : Bs, (ByteArray.mk b.toArray).data.toList = b := fun _ => rfl
   simp only [e, lineRead_end]
   cases h : readCo l with
   | none => simp
   | some x => exact readLs_all t ht ls _ _
theorem readLs_stop (t : Bs) (ht : (10 : UInt8) ∉ t) {x : ByteArray} (hx : lineRead x.data.toList = none) : ∀ (ls : List Bs) (pre : List ByteArray) (cs cs' : List Co) (ks ks' : List Int),
    (pre ++ [x]) <+: ((ls.map (fun l => l ++ [10]) ++ (if t = [] then [] else [t])).map fun l => (⟨l.toArray⟩ : ByteArray)) → readLs cs ks pre = some (cs', ks') →
    ((readAll cs ks ls).2.2 && decide (t = [])) = false ∧ (readAll cs ks ls).1 = cs'
  | [], pre, cs, cs', ks, ks', hp, hr => by
   by_cases h : t = []
   · simp [h] at hp
   · simp only [h, List.map_nil, List.nil_append, if_false, List.map_cons] at hp; have hl := hp.length_le
     simp at hl
     obtain rfl : pre = [] := hl; simp only [readLs, Option.some.injEq, Prod.mk.injEq] at hr
     simp [readAll, h, hr.1]
  | l :: ls, [], cs, cs', ks, ks', hp, hr => by
   simp only [List.nil_append, List.map_cons, List.cons_append] at hp; obtain rfl := (List.cons_prefix_cons.1 hp).1; simp only [readLs, Option.some.injEq, Prod.mk.injEq] at hr; have e : (ByteArray.mk (l ++ [10]).toArray).data.toList = l ++ [10] := rfl; rw [e, lineRead_end] at hx; rw [readAll, hx]; exact ⟨rfl, hr.1⟩
  | l :: ls, a :: r, cs, cs', ks, ks', hp, hr => by
   simp only [List.map_cons, List.cons_append] at hp; obtain ⟨rfl, hp2⟩ := List.cons_prefix_cons.1 hp; have e : (ByteArray.mk (l ++ [10]).toArray).data.toList = l ++ [10] := rfl; rw [readLs, e, lineRead_end] at hr; rw [readAll]
   cases h : readCo l with
   | none => rw [h] at hr; cases hr
   | some y =>
    rw [h] at hr; exact readLs_stop t ht hx ls r _ _ _ _ hp2 hr
theorem linesL_flat (s : Bs) : (linesL s).flatten = s := by
 have h := splitNl_back s; unfold linesL; rw [List.flatten_append, ← List.flatMap_def]
 conv => rhs; rw [h]
 congr 1
 split
 · rename_i e; rw [e]; rfl
 · simp
theorem linesB_size {S x : ByteArray} (h : x ∈ linesB S) : x.size ≤ S.size := by
 unfold linesB at h; obtain ⟨l, hl, rfl⟩ := List.mem_map.1 h; have h1 := (List.sublist_flatten_of_mem hl).length_le; rw [linesL_flat] at h1
 have h2 : S.data.toList.length = S.size := by simp
 have h3 : (ByteArray.mk l.toArray).size = l.length := List.size_toArray; omega
theorem parse_stop {S x : ByteArray} {pre : List ByteArray} {cs : List Co} {ks : List Int} (hp : (pre ++ [x]) <+: linesB S) (hr : readLs [] [] pre = some (cs, ks)) (hx : lineRead x.data.toList = none) :
    (parseR S.data.toList).2.2 = false ∧ (parseR S.data.toList).1 = cs := by
 unfold linesB linesL at hp; unfold parseR; exact readLs_stop _ (splitNl_no _).2 hx _ _ _ _ _ _ hp hr
theorem readLs_ok : ∀ (ls : List ByteArray) (cs cs' : List Co) (ks ks' : List Int), (∀ c ∈ cs, coOk c = true) → readLs cs ks ls = some (cs', ks') → (∀ c ∈ cs', coOk c = true) ∧ cs'.length = cs.length + ls.length ∧ ks'.length ≤ ks.length + ls.length
  | [], cs, cs', ks, ks', h, hr => by
   simp only [readLs, Option.some.injEq, Prod.mk.injEq] at hr; obtain ⟨rfl, rfl⟩ := hr; exact ⟨h, by simp, by simp⟩
  | l :: ls, cs, cs', ks, ks', h, hr => by
   rw [readLs] at hr
   cases hl : lineRead l.data.toList with
   | none => rw [hl] at hr; cases hr
   | some x =>
    rw [hl] at hr
    obtain ⟨h1, h2, h3⟩ := readLs_ok ls _ _ _ _ (fun c hc => by
     rcases List.mem_append.1 hc with h1 | h1
     · exact h c h1
     · have : c = x.1 := by simpa using h1
       subst this; unfold lineRead at hl
       split at hl
       · exact (readCo_ok (c := x.1) (key := x.2) hl).1
       · cases hl) hr
    refine ⟨h1, by rw [h2]; simp; omega, ?_⟩
    split at h3 <;> simp at h3 ⊢ <;> omega
theorem linesB_len (S : ByteArray) : (linesB S).length ≤ S.size := by
 have h0 : ∀ l : List Bs, (∀ x ∈ l, x ≠ []) → l.length ≤ l.flatten.length := by
  intro l
  induction l with
  | nil => simp
  | cons a t ih =>
   intro h
   have h1 : a.length ≠ 0 := fun e => h a (by simp) (List.eq_nil_of_length_eq_zero e)
   have h2 := ih fun x hx => h x (by simp [hx])
   simp only [List.length_cons, List.flatten_cons, List.length_append]; omega
 unfold linesB; rw [List.length_map]; refine Nat.le_trans (h0 _ fun x hx => ?_) (by rw [linesL_flat]; simp); unfold linesL at hx
 rcases List.mem_append.1 hx with h | h
 · obtain ⟨l, _, rfl⟩ := List.mem_map.1 h
   simp
 · split at h
   · cases h
   · rename_i e; simp at h; rw [h]; exact e
theorem readLs_parse (S : ByteArray) : readLs [] [] (linesB S) = if (parseR S.data.toList).2.2 = true then some ((parseR S.data.toList).1, (parseR S.data.toList).2.1) else none := by
 unfold linesB linesL parseR; exact readLs_all _ (splitNl_no _).2 _ [] []
end Go.Ms
set_option linter.unusedSimpArgs false
namespace Go.Ms
open Go.RowKit Go.Lib
theorem wpListIn_append_lay {F : Fence} {k : Nat} {P : Program} {w : World} {ops : Array Oper} {rest : List Oper} {o : Oper} {a : Act} {Q : Exit → Act → World → Prop} (hgd : o.guard = none) (s x : Operand) (t : TypeId)
    (ho : o.op = Op.call { callee := Callee.builtin Builtin.append, args := #[s, x], argTypes := #[t, t] })
    (base : Nat) (e : TypeId) (i : TypeInfo) (z : Value) (size bytes : Nat) (ht : P.underlying t = some (.slice e)) (hi : P.info? e = some i) (hz : i.zero = some z)
    (hsize : i.size = size) (hby : i.bytes = bytes) (hzs : z.cells.size = size) (hsz : 0 < size)
    (v : Value) (n : Nat) (xs : List Value) (hs : a.eval s = v) (hown : w.ownsRow base e size v n xs) (B : Nat) (A : Option Addr) (m c : Nat) (news : List Value) (hx : a.eval x = .slice A m c) (hl : news.length = m * size) (hnews : Lay w B A news) (h1 : ∀ u ∈ news, u.oneCell' = true)
    (h63 : n + m ≤ maxLen) (hbytes : (n + m) * bytes ≤ 140737488355328) (hbase : base ≤ w.heap.size)
    (h : ∀ v' w', w'.ownsRow base e size v' (n + m) (xs ++ news) → w.grownBy w' v.ownBlock → wpListIn F k P ops Q rest (a.put o.dst v') w') : wpListIn F k P ops Q (o :: rest) a w := by
 refine wpListIn_plain hgd fun K hK' => ?_
 obtain ⟨v', w', hr, h2, h3⟩ := run_append_lay (P := P) w base t o.type e i z size bytes ht hi hz hsize hby hzs hsz v n xs hown B A m c news hl hnews h1 h63 hbytes hbase; unfold Oper.wpIn; refine ⟨?_, ?_⟩
 · simp [Oper.about, ho, resolve, Target.leads, Sem.run_pure]
 · rw [Oper.semAt_plain F _ _ (by rw [ho]; intro c hc'; cases hc')]
   simp [execOp, ho, resolve, invoke, builtin, hs, hx, hr, Result.andThen]
   exact hK' _ _ (h v' w' h2 h3)
theorem two_set0 {w : World} {b : Nat} {x y : Value} {T : TypeId} (h : w.heap[b]? = some (.cells #[x, y] T (0, 0))) (u : Value) : (w.setCell ⟨b, 0, none⟩ u).heap[b]? = some (.cells #[u, y] T (0, 0)) := by
 simp [World.setCell, Array.getElem?_modify, h]
theorem two_set1 {w : World} {b : Nat} {x y : Value} {T : TypeId} (h : w.heap[b]? = some (.cells #[x, y] T (0, 0))) (u : Value) : (w.setCell ⟨b, 1, none⟩ u).heap[b]? = some (.cells #[x, u] T (0, 0)) := by
 simp [World.setCell, Array.getElem?_modify, h]
theorem one_set {w : World} {b : Nat} {x : Value} {T : TypeId} (h : w.heap[b]? = some (.cells #[x] T (0, 0))) (u : Value) : (w.setCell ⟨b, 0, none⟩ u).heap[b]? = some (.cells #[u] T (0, 0)) := by
 simp [World.setCell, Array.getElem?_modify, h]
theorem far_set {w : World} {b c i : Nat} {o : Obj} (h : w.heap[b]? = some o) (hc : b ≠ c) (u : Value) : (w.setCell ⟨c, i, none⟩ u).heap[b]? = some o := (Below.heap_setCell w ⟨c, i, none⟩ u b hc).trans h
theorem grown_set' (w : World) (b i : Nat) (u : Value) : w.grownBy (w.setCell ⟨b, i, none⟩ u) (some b) :=
  ⟨rfl, rfl, rfl, by simp [World.setCell], fun k _ hk => Below.heap_setCell w ⟨b, i, none⟩ u k (fun e => hk (by rw [e]))⟩
theorem own_set' {w : World} {B size n b i : Nat} {e : TypeId} {v : Value} {xs : List Value} (h : w.ownsRow B e size v n xs) (hb : b < B) (u : Value) : (w.setCell ⟨b, i, none⟩ u).ownsRow B e size v n xs :=
  World.ownsRow.kept h (grown_set' w b i u) (.inr (fun e => by have := (World.ownsRow.lt h b e).1; omega))
theorem own_apart {w : World} {B B' s s' n n' : Nat} {e e' : TypeId} {v v' : Value} {xs xs' : List Value} (h : w.ownsRow B e s v n xs) (k : w.ownsRow B' e' s' v' n' xs') (hne : e ≠ e') : v.ownBlock = none ∨ v.ownBlock ≠ v'.ownBlock := by
 rcases h.2 with ⟨rfl, _⟩ | ⟨g, cap, cur, rfl, _, hg, _⟩
 · exact .inl rfl
 · refine .inr fun e1 => ?_
   rcases k.2 with ⟨rfl, _⟩ | ⟨g', cap', cur', rfl, _, hg', _⟩
   · cases e1
   · have : g = g' := by simpa [Value.ownBlock] using e1
     subst this; rw [hg] at hg'
     cases hg'
     exact hne rfl
structure PSt (tS tC tI tJ tE : TypeId) (w : World) (B : Nat) (v1 v2 : Value) (cs : List Co) (ks : List Int) (W : World) : Prop where
  b0 : W.heap[w.heap.size]? = some (.cells #[v1, v2] tS (0, 0))
  b1 : W.heap[w.heap.size + 1]? = some (.cells #[.int .i64 0] tJ (0, 0))
  b2 : W.heap[w.heap.size + 2]? = some (.cells #[.int .i64 0] tE (0, 0))
  o1 : OwnCo W B tC v1 cs
  o2 : OwnI W B tI v2 ks
  bel : Below w.heap.size w W
  lo : w.heap.size + 4 ≤ B
  hi : B ≤ W.heap.size
section
variable {tS tC tI tJ tE : TypeId} {w : World} {B : Nat} {v1 v2 : Value} {cs : List Co} {ks : List Int} {W : World}
theorem PSt.step (h : PSt tS tC tI tJ tE w B v1 v2 cs ks W) {W' : World} (hb : Below W.heap.size W W') : PSt tS tC tI tJ tE w B v1 v2 cs ks W' :=
  ⟨block_kept h.b0 hb, block_kept h.b1 hb, block_kept h.b2 hb, own_below h.o1 hb, own_below h.o2 hb, h.bel.trans (hb.mono h.bel.size), h.lo, Nat.le_trans h.hi hb.size⟩
theorem PSt.grown (h : PSt tS tC tI tJ tE w B v1 v2 cs ks W) {A B' : World} {row : Option Nat} (e : W = A) (hg : A.grownBy B' row) (hr : ∀ r, row = some r → (r = w.heap.size + 3 ∨ B ≤ r ∧ ∃ o : Obj, A.heap[r]? = some o ∧ o.isCells = false)) : PSt tS tC tI tJ tE w B v1 v2 cs ks B' := by
 subst e; have hlo := h.lo
 have hne : ∀ k : Nat, k < w.heap.size + 3 → some k ≠ row := fun k hk e => by
  rcases hr k e.symm with h | h
  · omega
  · have := h.1; omega
 have hrow : ∀ {e : TypeId} {sz nn : Nat} {v : Value} {xs : List Value}, W.ownsRow B e sz v nn xs → B'.ownsRow B e sz v nn xs := fun {e sz nn v xs} ho => by
  refine World.ownsRow.kept ho hg ?_
  rcases hv : v.ownBlock with _ | k
  · exact .inl rfl
  · refine .inr fun e' => ?_
    rcases hr k e'.symm with h | ⟨_, o, ho1, ho2⟩
    · have := (World.ownsRow.lt ho k hv).1; omega
    · rcases ho.2 with ⟨hv', _⟩ | ⟨g, cap, cur, hv', _, hgb, _⟩
      · rw [hv'] at hv; simp [Value.ownBlock] at hv
      · rw [hv'] at hv
        simp [Value.ownBlock] at hv
        subst hv; rw [hgb] at ho1
        cases ho1
        cases ho2
 exact ⟨(hg.block _ (Array.getElem?_eq_some_iff.1 h.b0).1 (hne _ (by omega))).trans h.b0, (hg.block _ (Array.getElem?_eq_some_iff.1 h.b1).1 (hne _ (by omega))).trans h.b1, (hg.block _ (Array.getElem?_eq_some_iff.1 h.b2).1 (hne _ (by omega))).trans h.b2, hrow h.o1, hrow h.o2,
   h.bel.grown hg h.bel.size (fun k e => by rcases hr k e with h | h; · omega
                                            · have := h.1; omega), h.lo, Nat.le_trans h.hi hg.size⟩
theorem PSt.keys (h : PSt tS tC tI tJ tE w B v1 v2 cs ks W) (hne : tC ≠ tI) {W' : World} {v2' : Value} {k : Int} (hown : W'.ownsRow B tI 1 v2' (ks.length + 1) (intV ks ++ intV [k])) (hg : W.grownBy W' v2.ownBlock) : PSt tS tC tI tJ tE w B v1 v2' cs (ks ++ [k]) (W'.setCell ⟨w.heap.size, 1, none⟩ v2') := by
 have hlo := h.lo
 have hb : ∀ k : Nat, k < B → some k ≠ v2.ownBlock := fun k hk e => by have := (World.ownsRow.lt h.o2 k e.symm).1; omega
 have ho2 : OwnI W' B tI v2' (ks ++ [k]) := by
  unfold OwnI; rw [List.length_append, intV_app]; exact hown
 exact ⟨two_set1 ((hg.block _ (Array.getElem?_eq_some_iff.1 h.b0).1 (hb _ (by omega))).trans h.b0) _, far_set ((hg.block _ (Array.getElem?_eq_some_iff.1 h.b1).1 (hb _ (by omega))).trans h.b1) (by omega) _, far_set ((hg.block _ (Array.getElem?_eq_some_iff.1 h.b2).1 (hb _ (by omega))).trans h.b2) (by omega) _,
   own_set' (World.ownsRow.kept h.o1 hg (own_apart h.o1 h.o2 hne)) (by omega) _, own_set' ho2 (by omega) _, (own_grown h.o2 h.bel h.bel.size (by omega) hg).setCell (p := ⟨w.heap.size, 1, none⟩) (Nat.le_refl _) _, h.lo, by simp only [World.size_setCell]; exact Nat.le_trans h.hi hg.size⟩
theorem PSt.cols (h : PSt tS tC tI tJ tE w B v1 v2 cs ks W) (hne : tC ≠ tI) {W' : World} {v1' : Value} {c : Co} (hown : W'.ownsRow B tC 7 v1' (cs.length + 1) (colV cs ++ coV c)) (hg : W.grownBy W' v1.ownBlock) : PSt tS tC tI tJ tE w B v1' v2 (cs ++ [c]) ks (W'.setCell ⟨w.heap.size, 0, none⟩ v1') := by
 have hlo := h.lo
 have hb : ∀ k : Nat, k < B → some k ≠ v1.ownBlock := fun k hk e => by have := (World.ownsRow.lt h.o1 k e.symm).1; omega
 have ho2 : OwnCo W' B tC v1' (cs ++ [c]) := by
  unfold OwnCo; rw [List.length_append, colV_app, show colV [c] = coV c by simp [colV]]; exact hown
 exact ⟨two_set0 ((hg.block _ (Array.getElem?_eq_some_iff.1 h.b0).1 (hb _ (by omega))).trans h.b0) _, far_set ((hg.block _ (Array.getElem?_eq_some_iff.1 h.b1).1 (hb _ (by omega))).trans h.b1) (by omega) _, far_set ((hg.block _ (Array.getElem?_eq_some_iff.1 h.b2).1 (hb _ (by omega))).trans h.b2) (by omega) _,
   own_set' ho2 (by omega) _, own_set' (World.ownsRow.kept h.o2 hg (own_apart h.o2 h.o1 (Ne.symm hne))) (by omega) _, (own_grown h.o1 h.bel h.bel.size (by omega) hg).setCell (p := ⟨w.heap.size, 0, none⟩) (Nat.le_refl _) _, h.lo, by simp only [World.size_setCell]; exact Nat.le_trans h.hi hg.size⟩
end
structure PKp (base Bx : Nat) (W W' : World) : Prop where
  kf : KeepsFrom base W W'
  bx : W'.heap[Bx]? = W.heap[Bx]?
theorem PKp.trans {base Bx : Nat} {W W1 W2 : World} (h : PKp base Bx W W1) (k : PKp base Bx W1 W2) : PKp base Bx W W2 := ⟨h.kf.trans k.kf, k.bx.trans h.bx⟩
theorem PKp.below {base Bx : Nat} {W W' : World} (h : Below W.heap.size W W') (hB : Bx < W.heap.size) : PKp base Bx W W' := ⟨⟨h.size, fun k o _ hk _ => block_kept hk h⟩, h.block _ hB⟩
theorem PKp.set {base Bx : Nat} (W : World) (b i : Nat) (u : Value) (hB : Bx ≠ b) : PKp base Bx W (W.setCell ⟨b, i, none⟩ u) := ⟨(KeepsOthers.setCell W _ _).from _, Below.heap_setCell W ⟨b, i, none⟩ u Bx hB⟩
theorem PKp.grown {base Bx B s n : Nat} {e : TypeId} {v : Value} {xs : List Value} {W W' : World} (h : W.ownsRow B e s v n xs) (hg : W.grownBy W' v.ownBlock) (hB : Bx < B) (hl : Bx < W.heap.size) : PKp base Bx W W' := by
 refine ⟨(KeepsOthers.of_grownBy hg fun j o hj ho => ?_).from _, hg.block _ hl (fun e => by have := (World.ownsRow.lt h _ e.symm).1; omega)⟩
 rcases h.2 with ⟨hv', _⟩ | ⟨g, cap, cur, hv', _, hgb, _⟩
 · rw [hv'] at hj; simp [Value.ownBlock] at hj
 · rw [hv'] at hj
   simp [Value.ownBlock] at hj
   subst hj; rw [hgb] at ho
   cases ho
   rfl
theorem parse_done {s : Bs} (hz : ¬ 1048576 < s.length) (h : (parseR s).2.2 = true) : parseD s = if scOk (parseR s).1 (parseR s).2.1 = true then ((parseR s).1, (parseR s).2.1, 0, 0) else ([], [], 0, 2) := by
 unfold parseD; rw [if_neg hz, if_pos h]
theorem parse_halt {s : Bs} (hz : ¬ 1048576 < s.length) (h : (parseR s).2.2 = false) : parseD s = ([], [], (parseR s).1.length, 4) := by
 unfold parseD; rw [if_neg hz, if_neg (by rw [h]; simp)]
theorem PSt.same {tS tC tI tJ tE : TypeId} {w : World} {B : Nat} {v1 v2 : Value} {cs : List Co} {ks : List Int} {W : World} (h : PSt tS tC tI tJ tE w B v1 v2 cs ks W) :
    PSt tS tC tI tJ tE w B v1 v2 cs ks ((((W.setCell ⟨w.heap.size, 0, none⟩ v1).setCell ⟨w.heap.size, 1, none⟩ v2).setCell ⟨w.heap.size + 1, 0, none⟩ (.int .i64 0)).setCell ⟨w.heap.size + 1 + 1, 0, none⟩ (.int .i64 0)) := by
 have hlo := h.lo
 refine ⟨far_set (far_set (two_set1 (two_set0 h.b0 _) _) (by omega) _) (by omega) _, far_set (one_set (far_set (far_set h.b1 (by omega) _) (by omega) _) _) (by omega) _, one_set (far_set (far_set (far_set h.b2 (by omega) _) (by omega) _) (by omega) _) _,
   own_set' (own_set' (own_set' (own_set' h.o1 (by omega) _) (by omega) _) (by omega) _) (by omega) _, own_set' (own_set' (own_set' (own_set' h.o2 (by omega) _) (by omega) _) (by omega) _) (by omega) _, ?_, h.lo, by simp only [World.size_setCell]; exact h.hi⟩
 exact (((h.bel.setCell (p := ⟨w.heap.size, 0, none⟩) (Nat.le_refl _) _).setCell (p := ⟨w.heap.size, 1, none⟩) (Nat.le_refl _) _).setCell (p := ⟨w.heap.size + 1, 0, none⟩) (by simp only; omega) _).setCell (p := ⟨w.heap.size + 1 + 1, 0, none⟩) (by simp only; omega) _
theorem putObj_block {w : World} {b D : Nat} {o o' : Obj} (h : w.heap[b]? = some o) (hne : b ≠ D) : (w.putObj D o').heap[b]? = some o := (World.putObj_heap_other hne).trans h
def PEnd (tS tJ tE : TypeId) (S : ByteArray) (w : World) (W : World) : Prop :=
  ∃ pre x cs ks, (pre ++ [x]) <+: linesB S ∧ readLs [] [] pre = some (cs, ks) ∧ lineRead x.data.toList = none ∧
    W.heap[w.heap.size]? = some (.cells #[.slice none 0 0, .slice none 0 0] tS (0, 0)) ∧ W.heap[w.heap.size + 1]? = some (.cells #[.int .i64 cs.length] tJ (0, 0)) ∧ W.heap[w.heap.size + 2]? = some (.cells #[.int .i64 4] tE (0, 0)) ∧ Below w.heap.size w W
def ParsePost (S : Bs) (w : World) (e : Ending) (w' : World) : Prop := ∃ (A B : Option Addr) (c d : Nat), e = .returned (.tuple #[.agg #[.slice A (parseD S).1.length c, .slice B (parseD S).2.1.length d], .int .i64 (parseD S).2.2.1, .int .i64 (parseD S).2.2.2]) ∧
  Lay w' w'.heap.size A (colV (parseD S).1) ∧ Lay w' w'.heap.size B (intV (parseD S).2.1) ∧ Below w.heap.size w w'
end Go.Ms
namespace Go.Proofs.YthlinmkengoliaaGreatDoor
open Go.RowKit Go.Ms Go.Lib Go.Shelf
attribute [local go_sem] Oper.semAt_some
theorem lines_any (S : ByteArray) (w : World) : Calls Tryz.prog 64 #[.string S] w fun e w' => e = .returned (.func (.func 91) #[] #[.pointer (some ⟨w.heap.size, 0, none⟩)]) ∧ w' = w.alloc (.cells #[.string S] 9) := by
 go_enter Tryz.func64, Tryz.ntmps64
 go_wp2_with fail
 go_ret
 exact ⟨rfl, rfl⟩
theorem column_no {S : ByteArray} {w : World} (hs : S.size ≤ 20000) (hE : Env w) (h : lineRead S.data.toList = none) :
    Calls Tryz.prog 65 #[.string S] w fun e w' => (∃ c k, e = .returned (.tuple #[coA c, .bool k, .bool false])) ∧ Below w.heap.size w w' := by
 refine (column_any S w hs hE).mono ?_; rintro e w' ⟨⟨c, k, b, rfl, h1, h2⟩, hb⟩
 cases b with
 | false => exact ⟨⟨c, k, rfl⟩, hb⟩
 | true => rw [h] at h1; cases h1 rfl
theorem column_yes {S : ByteArray} {w : World} {c : Co} {k : Bool} (hs : S.size ≤ 20000) (hE : Env w) (h : lineRead S.data.toList = some (c, k)) :
    Calls Tryz.prog 65 #[.string S] w fun e w' => e = .returned (.tuple #[coA c, .bool k, .bool true]) ∧ Below w.heap.size w w' := by
 refine (column_any S w hs hE).mono ?_; rintro e w' ⟨⟨c', k', b, rfl, h1, h2⟩, hb⟩
 cases b with
 | false => rw [h] at h2; cases h2 rfl
 | true =>
  have e := h1 rfl; rw [h] at e
  cases e
  exact ⟨rfl, hb⟩
abbrev ParSt (w : World) (B : Nat) (v1 v2 : Value) (cs : List Co) (ks : List Int) (W : World) : Prop := PSt 28 37 3 3 43 w B v1 v2 cs ks W
set_option maxRecDepth 100000 in
set_option maxHeartbeats 4000000 in
theorem scparse_any (S : ByteArray) (w : World) (hs : S.size ≤ 20000) (hE : Env w) :
    Calls Tryz.prog 27 #[.string S] w (ParsePost S.data.toList w) := by
 have hz : ¬ (1048576 : Int) < S.size := by omega
 obtain ⟨ic, ci, cz0, cz1, cz2⟩ := info_parts column_info; obtain ⟨ii, ki, kz0, kz1, kz2⟩ := info_parts int_info; refine (callsIn_wide (n := 6)).1 ?_
 have hdp : Fence.wide.depth.isSome = true → 1 ≤ 6 := fun h => absurd h (by decide)
 refine callsIn_of_wp_marks Tryz.func27 rfl trivial ?_ rfl; simp only [Tryz.ntmps27, List.size_toArray, List.length_cons, List.length_nil, Nat.reduceAdd, Nat.reduceSub, Array.replicate_succ, Array.replicate_zero, List.push_toArray, List.append_toArray, List.nil_append, List.cons_append]
 gi_wp2_with (refine ⟨trivial, ?_⟩; gi_at_call 64; refine (callsIn_wide.2 (lines_any S _)).mono ?_; rintro e w' ⟨rfl, hw⟩; rw [hw]; clear hw)
 obtain ⟨X, hX⟩ : ∃ X, X = (((w.alloc (.cells #[.slice none 0 0, .slice none 0 0] 28)).alloc (.cells #[.int .i64 0] 3)).alloc (.cells #[.int .i64 0] 43)).alloc (.cells #[.string S] 9) := ⟨_, rfl⟩
 have bX : Below w.heap.size w X := by rw [hX]; exact ((((Below.refl _ w).alloc (Nat.le_refl _) _).alloc (by simp only [World.size_alloc]; omega) _).alloc (by simp only [World.size_alloc]; omega) _).alloc (by simp only [World.size_alloc]; omega) _
 have sX : X.heap.size = w.heap.size + 4 := by rw [hX]; simp only [World.size_alloc]
 have q0 : X.heap[w.heap.size]? = some (.cells #[.slice none 0 0, .slice none 0 0] 28 (0, 0)) := by rw [hX]; exact block_next (block_next (block_next (block_new _ _) _) _) _
 have q1 : X.heap[w.heap.size + 1]? = some (.cells #[.int .i64 0] 3 (0, 0)) := by rw [hX]; have := block_new (w.alloc (.cells #[.slice none 0 0, .slice none 0 0] 28)) (.cells #[.int .i64 0] 3); rw [World.size_alloc] at this; exact block_next (block_next this _) _
 have q2 : X.heap[w.heap.size + 2]? = some (.cells #[.int .i64 0] 43 (0, 0)) := by rw [hX]; have := block_new ((w.alloc (.cells #[.slice none 0 0, .slice none 0 0] 28)).alloc (.cells #[.int .i64 0] 3)) (.cells #[.int .i64 0] 43); rw [World.size_alloc, World.size_alloc] at this; exact block_next this _
 have q3 : Boxed X (w.heap.size + 1 + 1 + 1) 9 (.string S) := by rw [hX]; have := Boxed.new (((w.alloc (.cells #[.slice none 0 0, .slice none 0 0] 28)).alloc (.cells #[.int .i64 0] 3)).alloc (.cells #[.int .i64 0] 43)) 9 (.string S); rw [World.size_alloc, World.size_alloc, World.size_alloc] at this; exact this
 have hst0 : ParSt w X.heap.size (.slice none 0 0) (.slice none 0 0) [] [] X := ⟨q0, q1, q2, World.ownsRow_nil _ _ _ _, World.ownsRow_nil _ _ _ _, bX, by omega, Nat.le_refl _⟩; rw [← hX]; clear hX
 refine wpIn_rangeFunc_box rfl (by omega) (gf := 91) (Bs := w.heap.size + 1 + 1 + 1) (ty := 9) (s0 := .string S) rfl trivial (enters_of Tryz.func91 (by kernel_rfl) rfl) q3 (lines_seq 5 (w.heap.size + 1 + 1 + 1) S (by omega)) (fun _ => rfl)
   (fun pre W => ∃ cs ks v1 v2, readLs [] [] pre = some (cs, ks) ∧ ParSt w X.heap.size v1 v2 cs ks W)
   (fun c pre W => c = .ret ∧ PEnd 28 3 43 S w W) ?hI ?hIx ?h0
   (fun x => { tmps := #[.string S, undef, .pointer (some ⟨w.heap.size, 0, none⟩), .pointer (some ⟨w.heap.size + 1, 0, none⟩), .pointer (some ⟨w.heap.size + 1 + 1, 0, none⟩), .string x, undef, undef, undef, undef, .string S, .int .i64 S.size, .bool false, undef, .string S, .func (.func 91) #[] #[.pointer (some ⟨w.heap.size + 1 + 1 + 1, 0, none⟩)], .string x, undef, undef, undef, undef, undef, undef, undef, undef, undef, undef, undef, undef, undef, undef, undef, undef, undef, undef, undef, undef, undef, undef, undef, undef, undef, undef, undef, undef, undef, undef, undef, undef, undef, undef], defers := [] }) ?assign ?body ?done ?stop
 case h0 => exact ⟨[], [], .slice none 0 0, .slice none 0 0, rfl, hst0⟩
 case hIx =>
  rintro c s A B row ⟨h1, pre, x, cs, ks, h2, h3, h4, h5, h6, h7, h8⟩ hg hr
  have hne : ∀ k : Nat, k < w.heap.size + 3 → some k ≠ row := fun k hk e => by
   rcases hr k e.symm with h | h
   · omega
   · have := h.1; omega
  refine ⟨h1, pre, x, cs, ks, h2, h3, h4, (hg.block _ (Array.getElem?_eq_some_iff.1 h5).1 (hne _ (by omega))).trans h5, (hg.block _ (Array.getElem?_eq_some_iff.1 h6).1 (hne _ (by omega))).trans h6, (hg.block _ (Array.getElem?_eq_some_iff.1 h7).1 (hne _ (by omega))).trans h7, h8.grown hg h8.size (fun k e => ?_)⟩
  rcases hr k e with h | h
  · omega
  · have := h.1; omega
 case hI =>
  rintro pre A B row ⟨cs, ks, v1, v2, h1, h2⟩ hg hr
  exact ⟨cs, ks, v1, v2, h1, h2.grown rfl hg (fun r e => by rcases hr r e with h | h; · exact .inl (by omega)
                                                            · exact .inr h)⟩
 case assign =>
  intro l x W K hK
  gi_wp2
  exact hK
 case body =>
  rintro l pre x W hp ⟨cs, ks, v1, v2, h1, hst⟩; have hx : x ∈ linesB S := hp.subset (by simp); have hxz : x.size ≤ 20000 := Nat.le_trans (linesB_size hx) hs; obtain ⟨-, hlc, hlk⟩ := readLs_ok pre [] cs [] ks (by simp) h1
  have hlp : pre.length + 1 ≤ 20000 := by have := hp.length_le; have := linesB_len S; simp at *; omega
  simp at hlc hlk
  obtain ⟨A1, c1, hv1, hcc1, hcm1⟩ := yown_slice hst.o1; obtain ⟨A2, c2, hv2, hcc2, hcm2⟩ := yown_slice hst.o2; subst hv1; subst hv2
  have lB : w.heap.size + 1 + 1 + 1 < W.heap.size := by have := hst.lo; have := hst.hi; omega
  have lw : w.heap.size ≠ W.heap.size := by omega
  cases hlr : lineRead x.data.toList with
  | none =>
   have hcol := column_no hxz (hE.below hst.bel) hlr
   have HCOL := Lib.hid hcol; have H1 := Lib.hid h1; have HST := Lib.hid hst; have HP := Lib.hid hp; have HLR := Lib.hid hlr
   clear hcol h1 hst hp hlr hx hlc hlk hlp hcc1 hcm1 hcc2 hcm2 hst0 q0 q1 q2 q3 bX sX
   gi_wp2_with (refine ⟨trivial, ?_⟩; gi_at_call 65; refine (CallsIn.inRound l (callsIn_wide.2 HCOL.out)).mono ?_; rintro e W1 ⟨⟨c, kk, rfl⟩, bw1⟩; obtain ⟨i0, s0, ⟨k0, u0⟩, n0, m0, t0⟩ := c; simp only [coA]; have hs1 := (HST.out.step bw1).step ((Below.refl _ W1).alloc (Nat.le_refl _) (.cells #[.int .i64 i0, .string s0, .int .i64 k0, .bool u0, .bool n0, .int .i64 m0, .string t0] 37)); have hk1 := (PKp.below (base := X.heap.size) bw1 lB).trans (PKp.below ((Below.refl _ W1).alloc (Nat.le_refl _) (.cells #[.int .i64 i0, .string s0, .int .i64 k0, .bool u0, .bool n0, .int .i64 m0, .string t0] 37)) (Nat.lt_of_lt_of_le lB bw1.size)); have S1 := Lib.hid hs1; have K1 := Lib.hid hk1; clear bw1 hk1; have y0 := cell_of_block (i := 0) hs1.b0 rfl; have y1 := cell_of_block (i := 1) hs1.b0 rfl; have y2 := cell_of_block (i := 0) hs1.b1 rfl; have y3 := cell_of_block (i := 0) hs1.b2 rfl; have g0 := frozen_of_block (i := 0) hs1.b0; have g1 := frozen_of_block (i := 1) hs1.b0; have g2 := frozen_of_block (i := 0) hs1.b1; have g3 := frozen_of_block (i := 0) hs1.b2; clear hs1)
   refine ⟨?_, rfl, pre, x, cs, ks, HP.out, H1.out, HLR.out, ?_, ?_, ?_, ?_⟩
   · exact (((K1.out.trans (PKp.set _ _ 0 _ (by omega))).trans (PKp.set _ _ 1 _ (by omega))).trans (PKp.set _ _ 0 _ (by omega))).trans (PKp.set _ _ 0 _ (by omega)) |>.kf
   · exact far_set (far_set (two_set1 (two_set0 S1.out.b0 _) _) (by omega) _) (by omega) _
   · exact far_set (one_set (far_set (far_set S1.out.b1 (by omega) _) (by omega) _) _) (by omega) _
   · exact one_set (far_set (far_set (far_set S1.out.b2 (by omega) _) (by omega) _) (by omega) _) _
   · exact (((S1.out.bel.setCell (p := ⟨w.heap.size, 0, none⟩) (Nat.le_refl _) _).setCell (p := ⟨w.heap.size, 1, none⟩) (Nat.le_refl _) _).setCell (p := ⟨w.heap.size + 1, 0, none⟩) (by simp only; omega) _).setCell (p := ⟨w.heap.size + 1 + 1, 0, none⟩) (by simp only; omega) _
  | some ck =>
   obtain ⟨⟨i0, s0, ⟨k0, u0⟩, n0, m0, t0⟩, kk⟩ := ck; have hcol := column_yes hxz (hE.below hst.bel) hlr; have hls := readLs_snoc hlr pre [] cs [] ks h1
   have HCOL := Lib.hid hcol; have H1 := Lib.hid h1; have HST := Lib.hid hst; have HLS := Lib.hid hls; have HLC := Lib.hid hlc; have HLK := Lib.hid hlk; have HLP := Lib.hid hlp
   clear hcol h1 hst hp hlr hx hls hcc1 hcm1 hcc2 hcm2 hst0 q0 q1 q2 q3 bX sX hlc hlk hlp
   have hcl : cs.length + 1 ≤ 20000 := by have := HLC.out; have := HLP.out; omega
   have hkl : ks.length + 1 ≤ 20000 := by have := HLK.out; have := HLP.out; omega
   have HCL := Lib.hid hcl; have HKL := Lib.hid hkl
   clear hcl hkl
   have hone : ∀ u ∈ coV ((i0, s0, (k0, u0), n0, m0, t0) : Co), u.oneCell' = true := fun u hu => colV_one [((i0, s0, (k0, u0), n0, m0, t0) : Co)] u (by simpa [colV] using hu)
   have HONE := Lib.hid hone; clear hone
   cases kk with
   | false =>
    gi_wp2_with (first | (refine ⟨trivial, ?_⟩; gi_at_call 65; refine (CallsIn.inRound l (callsIn_wide.2 HCOL.out)).mono ?_; rintro e W1 ⟨rfl, bw1⟩; simp only [coA]; have hs1 := (HST.out.step bw1).step ((Below.refl _ W1).alloc (Nat.le_refl _) (.cells #[.int .i64 i0, .string s0, .int .i64 k0, .bool u0, .bool n0, .int .i64 m0, .string t0] 37)); have hk1 := (PKp.below (base := X.heap.size) bw1 lB).trans (PKp.below ((Below.refl _ W1).alloc (Nat.le_refl _) (.cells #[.int .i64 i0, .string s0, .int .i64 k0, .bool u0, .bool n0, .int .i64 m0, .string t0] 37)) (Nat.lt_of_lt_of_le lB bw1.size)); have hq1 := block_new W1 (.cells #[.int .i64 i0, .string s0, .int .i64 k0, .bool u0, .bool n0, .int .i64 m0, .string t0] 37); have lw1 : w.heap.size ≠ W1.heap.size := (by have := bw1.size; omega); have S1 := Lib.hid hs1; have K1 := Lib.hid hk1; have Q1 := Lib.hid hq1; have BW := Lib.hid bw1; clear bw1 hk1; have y0 := cell_of_block (i := 0) hs1.b0 rfl; have y1 := cell_of_block (i := 1) hs1.b0 rfl; have g0 := frozen_of_block (i := 0) hs1.b0; have g1 := frozen_of_block (i := 1) hs1.b0; clear hs1 hq1) | (gi_at_builtin; have hs2 := S1.out.step ((Below.refl _ _).alloc (Nat.le_refl _) (.cells #[.int .i64 i0, .string s0, .int .i64 k0, .bool u0, .bool n0, .int .i64 m0, .string t0] 37)); have hnew := lay_new (W1.alloc (.cells #[.int .i64 i0, .string s0, .int .i64 k0, .bool u0, .bool n0, .int .i64 m0, .string t0] 37)) (coV ((i0, s0, (k0, u0), n0, m0, t0) : Co)) 37; simp only [World.size_alloc] at hnew; refine wpListIn_append_lay rfl (.tmp 39) (.tmp 41) _ rfl X.heap.size 37 ic _ 7 72 under_cols ci cz0 cz1 cz2 rfl (by omega) (.slice A1 cs.length c1) cs.length (colV cs) rfl hs2.o1 _ _ 1 1 (coV ((i0, s0, (k0, u0), n0, m0, t0) : Co)) rfl rfl hnew HONE.out (by have := HCL.out; unfold maxLen; omega) (by have := HCL.out; omega) hs2.hi ?_; intro v1' W5 hown hg; obtain ⟨A3, c3, e3, _⟩ := yown_slice hown; subst e3; have hp := hs2.cols (by decide) hown hg; have hk2 := (((K1.out).trans (PKp.below ((Below.refl _ _).alloc (Nat.le_refl _) (.cells #[.int .i64 i0, .string s0, .int .i64 k0, .bool u0, .bool n0, .int .i64 m0, .string t0] 37)) (Nat.lt_of_lt_of_le lB (by have := BW.out.size; simp only [World.size_alloc, World.size_setCell]; omega)))).trans (PKp.grown hs2.o1 hg (by have := hs2.lo; omega) (by have := hs2.lo; have := hs2.hi; omega))).trans (PKp.set W5 w.heap.size 0 (.slice A3 (cs.length + 1) c3) (by omega)); have z0 := (hg.block _ (Array.getElem?_eq_some_iff.1 hs2.b0).1 (fun e => by have := (World.ownsRow.lt hs2.o1 _ e.symm).1; have := hs2.lo; omega)).trans hs2.b0; have z1 := cell_of_block (i := 0) z0 rfl; have z2 := frozen_of_block (i := 0) z0; have HP5 := Lib.hid hp; have HK5 := Lib.hid hk2; clear hs2 hnew hown hg hp hk2 z0))
    have hls := HLS.out; simp only [Bool.false_eq_true, if_false, if_true] at hls; exact ⟨HK5.out.kf, HK5.out.bx, cs ++ [((i0, s0, (k0, u0), n0, m0, t0) : Co)], ks, hls, .slice A3 (cs.length + 1) c3, .slice A2 ks.length c2, HP5.out⟩
   | true =>
    gi_wp2_with (first | (refine ⟨trivial, ?_⟩; gi_at_call 65; refine (CallsIn.inRound l (callsIn_wide.2 HCOL.out)).mono ?_; rintro e W1 ⟨rfl, bw1⟩; simp only [coA]; have hs1 := (HST.out.step bw1).step ((Below.refl _ W1).alloc (Nat.le_refl _) (.cells #[.int .i64 i0, .string s0, .int .i64 k0, .bool u0, .bool n0, .int .i64 m0, .string t0] 37)); have hk1 := (PKp.below (base := X.heap.size) bw1 lB).trans (PKp.below ((Below.refl _ W1).alloc (Nat.le_refl _) (.cells #[.int .i64 i0, .string s0, .int .i64 k0, .bool u0, .bool n0, .int .i64 m0, .string t0] 37)) (Nat.lt_of_lt_of_le lB bw1.size)); have hq1 := block_new W1 (.cells #[.int .i64 i0, .string s0, .int .i64 k0, .bool u0, .bool n0, .int .i64 m0, .string t0] 37); have lw1 : w.heap.size ≠ W1.heap.size := (by have := bw1.size; omega); have S1 := Lib.hid hs1; have K1 := Lib.hid hk1; have Q1 := Lib.hid hq1; have BW := Lib.hid bw1; clear bw1 hk1; have y0 := cell_of_block (i := 0) hs1.b0 rfl; have y1 := cell_of_block (i := 1) hs1.b0 rfl; have g0 := frozen_of_block (i := 0) hs1.b0; have g1 := frozen_of_block (i := 1) hs1.b0; clear hs1 hq1) | (gi_at_builtin; have hs2 := S1.out.step ((Below.refl _ _).alloc (Nat.le_refl _) (.cells #[.int .i64 cs.length] 3)); have hnew := lay_new (W1.alloc (.cells #[.int .i64 i0, .string s0, .int .i64 k0, .bool u0, .bool n0, .int .i64 m0, .string t0] 37)) (intV [(cs.length : Int)]) 3; simp only [World.size_alloc] at hnew; refine wpListIn_append_lay rfl (.tmp 31) (.tmp 35) _ rfl X.heap.size 3 ii _ 1 8 under_ints ki kz0 kz1 kz2 rfl (by omega) (.slice A2 ks.length c2) ks.length (intV ks) rfl hs2.o2 _ _ 1 1 (intV [(cs.length : Int)]) rfl rfl hnew (intV_one _) (by have := HKL.out; unfold maxLen; omega) (by have := HKL.out; omega) hs2.hi ?_; intro v2' W3 hown hg; obtain ⟨A4, c4, e4, _⟩ := yown_slice hown; subst e4; have hp := hs2.keys (by decide) hown hg; have hk2 := ((K1.out.trans (PKp.below ((Below.refl _ _).alloc (Nat.le_refl _) (.cells #[.int .i64 cs.length] 3)) (Nat.lt_of_lt_of_le lB (by have := BW.out.size; simp only [World.size_alloc]; omega)))).trans (PKp.grown hs2.o2 hg (by have := hs2.lo; omega) (by have := hs2.lo; have := hs2.hi; omega))).trans (PKp.set W3 w.heap.size 1 (.slice A4 (ks.length + 1) c4) (by omega)); have z0 := (hg.block _ (Array.getElem?_eq_some_iff.1 hs2.b0).1 (fun e => by have := (World.ownsRow.lt hs2.o2 _ e.symm).1; have := hs2.lo; omega)).trans hs2.b0; have z1 := cell_of_block (i := 1) z0 rfl; have z2 := frozen_of_block (i := 1) z0; have x1 := cell_of_block (i := 0) z0 rfl; have cb := (hg.block W1.heap.size (by simp only [World.size_alloc]; omega) (fun e => by have := (World.ownsRow.lt HST.out.o2 _ e.symm).2; have := BW.out.size; omega)).trans (block_next Q1.out _); have cb0 := cell_of_block (i := 0) cb rfl; have cb1 := cell_of_block (i := 1) cb rfl; have cb2 := cell_of_block (i := 2) cb rfl; have cb3 := cell_of_block (i := 3) cb rfl; have cb4 := cell_of_block (i := 4) cb rfl; have cb5 := cell_of_block (i := 5) cb rfl; have cb6 := cell_of_block (i := 6) cb rfl; have HP3 := Lib.hid hp; have HK3 := Lib.hid hk2; have hb3 : W.heap.size ≤ W3.heap.size := (by have := hg.size; have := BW.out.size; simp only [World.size_alloc] at *; omega); have HB3 := Lib.hid hb3; clear hs2 hnew hown hg hp hk2 z0 cb hb3) | (gi_at_builtin; have hs2 := HP3.out.step ((Below.refl _ _).alloc (Nat.le_refl _) (.cells #[.int .i64 i0, .string s0, .int .i64 k0, .bool u0, .bool n0, .int .i64 m0, .string t0] 37)); have hnew := lay_new (W3.setCell ⟨w.heap.size, 1, none⟩ (.slice A4 (ks.length + 1) c4)) (coV ((i0, s0, (k0, u0), n0, m0, t0) : Co)) 37; simp only [World.size_setCell] at hnew; refine wpListIn_append_lay rfl (.tmp 39) (.tmp 41) _ rfl X.heap.size 37 ic _ 7 72 under_cols ci cz0 cz1 cz2 rfl (by omega) (.slice A1 cs.length c1) cs.length (colV cs) rfl hs2.o1 _ _ 1 1 (coV ((i0, s0, (k0, u0), n0, m0, t0) : Co)) rfl rfl hnew HONE.out (by have := HCL.out; unfold maxLen; omega) (by have := HCL.out; omega) hs2.hi ?_; intro v1' W5 hown hg; obtain ⟨A3, c3, e3, _⟩ := yown_slice hown; subst e3; have hp := hs2.cols (by decide) hown hg; have hk2 := (((HK3.out).trans (PKp.below ((Below.refl _ _).alloc (Nat.le_refl _) (.cells #[.int .i64 i0, .string s0, .int .i64 k0, .bool u0, .bool n0, .int .i64 m0, .string t0] 37)) (Nat.lt_of_lt_of_le lB (by have := HB3.out; simp only [World.size_setCell]; omega)))).trans (PKp.grown hs2.o1 hg (by have := hs2.lo; omega) (by have := hs2.lo; have := hs2.hi; omega))).trans (PKp.set W5 w.heap.size 0 (.slice A3 (cs.length + 1) c3) (by omega)); have z0 := (hg.block _ (Array.getElem?_eq_some_iff.1 hs2.b0).1 (fun e => by have := (World.ownsRow.lt hs2.o1 _ e.symm).1; have := hs2.lo; omega)).trans hs2.b0; have z1 := cell_of_block (i := 0) z0 rfl; have z2 := frozen_of_block (i := 0) z0; have HP5 := Lib.hid hp; have HK5 := Lib.hid hk2; clear hs2 hnew hown hg hp hk2 z0))
    have hls := HLS.out; simp only [Bool.false_eq_true, if_false, if_true] at hls; exact ⟨HK5.out.kf, HK5.out.bx, cs ++ [((i0, s0, (k0, u0), n0, m0, t0) : Co)], ks ++ [(cs.length : Int)], hls, .slice A3 (cs.length + 1) c3, .slice A4 (ks.length + 1) c4, HP5.out⟩
 case done =>
  rintro D W hD ⟨cs, ks, v1, v2, h1, hst⟩ hK; obtain ⟨hok, hlc, hlk⟩ := readLs_ok (linesB S) [] cs [] ks (by simp) h1; have hll := linesB_len S
  simp at hlc hlk
  have hpr := readLs_parse S; rw [h1] at hpr
  have hp2 : (parseR S.data.toList).2.2 = true := by
   cases h : (parseR S.data.toList).2.2 with
   | true => rfl
   | false => rw [h] at hpr; simp at hpr
  rw [if_pos hp2] at hpr; simp only [Option.some.injEq, Prod.mk.injEq] at hpr; obtain ⟨A1, c1, hv1, hcc1, hcm1⟩ := yown_slice hst.o1; obtain ⟨A2, c2, hv2, hcc2, hcm2⟩ := yown_slice hst.o2; subst hv1; subst hv2; have hchk := sccheck_any W A1 A2 cs.length c1 ks.length c2 cs ks (fun c hc => by have := coOk_small (hok c hc); omega) (by omega) (by omega) rfl rfl hst.o1.lay.2 hst.o2.lay.2 (hE.below hst.bel)
  have hSl : S.data.toList.length = S.size := by simp
  have hpd := parse_done (s := S.data.toList) (by omega) hp2; rw [← hpr.1, ← hpr.2] at hpd; have y0 := cell_of_block (i := 0) hst.b0 rfl; have y1 := cell_of_block (i := 1) hst.b0 rfl; have hB := hst.lo; unfold scCheck at hchk
  by_cases hsc : scOk cs ks = true
  · rw [if_pos hsc] at hpd hchk
    have HCHK := Lib.hid hchk; have HST := Lib.hid hst; have HK := Lib.hid hK; have HPD := Lib.hid hpd
    clear hchk hst hK hpd hsc hpr hp2 h1 hok hlc hlk hll hcc1 hcm1 hcc2 hcm2 hst0 q0 q1 q2 q3 bX
    gi_wp2_with (refine ⟨trivial, ?_⟩; gi_at_call 19; refine (callsIn_wide.2 HCHK.out).mono ?_; rintro e W1 ⟨rfl, b1⟩; have hs1 := HST.out.step b1; have hk1 := block_kept HK.out b1; have S1 := Lib.hid hs1; have K1 := Lib.hid hk1; have y0 := cell_of_block (i := 0) hs1.b0 rfl; have y1 := cell_of_block (i := 1) hs1.b0 rfl; have y2 := cell_of_block (i := 0) hs1.b1 rfl; have y3 := cell_of_block (i := 0) hs1.b2 rfl; have g0 := frozen_of_block (i := 0) hs1.b0; have g1 := frozen_of_block (i := 1) hs1.b0; have g2 := frozen_of_block (i := 0) hs1.b1; have g3 := frozen_of_block (i := 0) hs1.b2; clear b1 hs1 hk1)
    have hk2 : ((((W1.setCell ⟨w.heap.size, 0, none⟩ (.slice A1 cs.length c1)).setCell ⟨w.heap.size, 1, none⟩ (.slice A2 ks.length c2)).setCell ⟨w.heap.size + 1, 0, none⟩ (.int .i64 0)).setCell ⟨w.heap.size + 1 + 1, 0, none⟩ (.int .i64 0)).heap[D]? = some (.deferred (some [])) := far_set (far_set (far_set (far_set K1.out (by omega) _) (by omega) _) (by omega) _) (by omega) _; have hp := S1.out.same.grown rfl (grownBy_putObj' _ D (.deferred none)) (fun r e => by cases e; exact .inr ⟨hD, _, hk2, rfl⟩); have z0 := cell_of_block (i := 0) hp.b0 rfl; have z1 := cell_of_block (i := 1) hp.b0 rfl
    have z2 := cell_of_block (i := 0) hp.b1 rfl; have z3 := cell_of_block (i := 0) hp.b2 rfl; refine ⟨by simp, .inl ⟨_, _, rfl, run_takeDeferred hk2, ?_⟩⟩; refine ⟨.tuple #[.agg #[.slice A1 cs.length c1, .slice A2 ks.length c2], .int .i64 0, .int .i64 0], ?_, ?_⟩
    · simp [results, Tryz.results27, Tryz.f27, go_sem, z0, z1, z2, z3]
    · have hl1 := hp.o1.lay; have hl2 := hp.o2.lay; refine ⟨A1, A2, c1, c2, ?_, ?_, ?_, hp.bel⟩
      · rw [HPD.out]; rfl
      · rw [HPD.out]; exact hl1.2
      · rw [HPD.out]; exact hl2.2
  · rw [if_neg hsc] at hpd hchk
    have HCHK := Lib.hid hchk; have HST := Lib.hid hst; have HK := Lib.hid hK; have HPD := Lib.hid hpd
    clear hchk hst hK hpd hsc hpr hp2 h1 hok hlc hlk hll hcc1 hcm1 hcc2 hcm2 hst0 q0 q1 q2 q3 bX
    gi_wp2_with (refine ⟨trivial, ?_⟩; gi_at_call 19; refine (callsIn_wide.2 HCHK.out).mono ?_; rintro e W1 ⟨rfl, b1⟩; have hs1 := HST.out.step b1; have hk1 := block_kept HK.out b1; have S1 := Lib.hid hs1; have K1 := Lib.hid hk1; have y0 := cell_of_block (i := 0) hs1.b0 rfl; have y1 := cell_of_block (i := 1) hs1.b0 rfl; have y2 := cell_of_block (i := 0) hs1.b1 rfl; have y3 := cell_of_block (i := 0) hs1.b2 rfl; have g0 := frozen_of_block (i := 0) hs1.b0; have g1 := frozen_of_block (i := 1) hs1.b0; have g2 := frozen_of_block (i := 0) hs1.b1; have g3 := frozen_of_block (i := 0) hs1.b2; clear b1 hs1 hk1)
    have hb0 := far_set (far_set (two_set1 (two_set0 S1.out.b0 (.slice none 0 0)) (.slice none 0 0)) (show w.heap.size ≠ w.heap.size + 1 by omega) (i := 0) (.int .i64 0)) (show w.heap.size ≠ w.heap.size + 1 + 1 by omega) (i := 0) (.int .i64 2); have hb1 := far_set (one_set (far_set (far_set S1.out.b1 (show w.heap.size + 1 ≠ w.heap.size by omega) (i := 0) (.slice none 0 0)) (show w.heap.size + 1 ≠ w.heap.size by omega) (i := 1) (.slice none 0 0)) (.int .i64 0)) (show w.heap.size + 1 ≠ w.heap.size + 1 + 1 by omega) (i := 0) (.int .i64 2)
    have hb2 := one_set (far_set (far_set (far_set S1.out.b2 (show w.heap.size + 1 + 1 ≠ w.heap.size by omega) (i := 0) (.slice none 0 0)) (show w.heap.size + 1 + 1 ≠ w.heap.size by omega) (i := 1) (.slice none 0 0)) (show w.heap.size + 1 + 1 ≠ w.heap.size + 1 by omega) (i := 0) (.int .i64 0)) (.int .i64 2)
    have hk2 : ((((W1.setCell ⟨w.heap.size, 0, none⟩ (.slice none 0 0)).setCell ⟨w.heap.size, 1, none⟩ (.slice none 0 0)).setCell ⟨w.heap.size + 1, 0, none⟩ (.int .i64 0)).setCell ⟨w.heap.size + 1 + 1, 0, none⟩ (.int .i64 2)).heap[D]? = some (.deferred (some [])) := far_set (far_set (far_set (far_set K1.out (by omega) _) (by omega) _) (by omega) _) (by omega) _
    have hbel := (((S1.out.bel.setCell (p := ⟨w.heap.size, 0, none⟩) (Nat.le_refl _) (.slice none 0 0)).setCell (p := ⟨w.heap.size, 1, none⟩) (Nat.le_refl _) (.slice none 0 0)).setCell (p := ⟨w.heap.size + 1, 0, none⟩) (by simp only; omega) (.int .i64 0)).setCell (p := ⟨w.heap.size + 1 + 1, 0, none⟩) (by simp only; omega) (.int .i64 2); have z0 := cell_of_block (i := 0) (putObj_block (o' := .deferred none) hb0 (show w.heap.size ≠ D by omega)) rfl; have z1 := cell_of_block (i := 1) (putObj_block (o' := .deferred none) hb0 (show w.heap.size ≠ D by omega)) rfl
    have z2 := cell_of_block (i := 0) (putObj_block (o' := .deferred none) hb1 (show w.heap.size + 1 ≠ D by omega)) rfl; have z3 := cell_of_block (i := 0) (putObj_block (o' := .deferred none) hb2 (show w.heap.size + 1 + 1 ≠ D by omega)) rfl; refine ⟨by simp, .inl ⟨_, _, rfl, run_takeDeferred hk2, ?_⟩⟩; refine ⟨.tuple #[.agg #[.slice none 0 0, .slice none 0 0], .int .i64 0, .int .i64 2], ?_, ?_⟩
    · simp [results, Tryz.results27, Tryz.f27, go_sem, z0, z1, z2, z3]
    · refine ⟨none, none, 0, 0, ?_, ?_, ?_, hbel.grown (grownBy_putObj' _ D (.deferred none)) hbel.size (fun k e => by cases e; omega)⟩
      · rw [HPD.out]; rfl
      · rw [HPD.out]; intro j u hu; simp [colV] at hu
      · rw [HPD.out]; intro j u hu; simp [intV] at hu
 case stop =>
  rintro D c pre W hD ⟨rfl, pre', x, cs, ks, h2, h3, h4, h5, h6, h7, h8⟩ hK
  gi_wp2
  have hps := parse_stop h2 h3 h4
  have hSl : S.data.toList.length = S.size := by simp
  have hpd := parse_halt (s := S.data.toList) (by omega) hps.1; rw [hps.2] at hpd; have z0 := cell_of_block (i := 0) (putObj_block (o' := .deferred none) h5 (show w.heap.size ≠ D by omega)) rfl; have z1 := cell_of_block (i := 1) (putObj_block (o' := .deferred none) h5 (show w.heap.size ≠ D by omega)) rfl; have z2 := cell_of_block (i := 0) (putObj_block (o' := .deferred none) h6 (show w.heap.size + 1 ≠ D by omega)) rfl; have z3 := cell_of_block (i := 0) (putObj_block (o' := .deferred none) h7 (show w.heap.size + 2 ≠ D by omega)) rfl; refine ⟨by simp, .inl ⟨_, _, rfl, run_takeDeferred hK, ?_⟩⟩
  refine ⟨.tuple #[.agg #[.slice none 0 0, .slice none 0 0], .int .i64 cs.length, .int .i64 4], ?_, ?_⟩
  · simp [results, Tryz.results27, Tryz.f27, go_sem, z0, z1, z2, z3]
  · refine ⟨none, none, 0, 0, ?_, ?_, ?_, h8.grown (grownBy_putObj' _ D (.deferred none)) h8.size (fun k e => by cases e; omega)⟩
    · rw [hpd]; rfl
    · rw [hpd]; intro j u hu; simp [colV] at hu
    · rw [hpd]; intro j u hu; simp [intV] at hu
end Go.Proofs.YthlinmkengoliaaGreatDoor
namespace Go.Ms
open Go.RowKit Go.Lib
def wCs : List Co := [(1, ⟨#[105, 100]⟩, (3, false), (false, 0, ⟨#[]⟩)), (3, ⟨#[110, 97, 109, 101]⟩, (4, true), (true, 0, ⟨#[]⟩))]
theorem pd_works : parseD [49, 32, 105, 100, 32, 105, 110, 116, 54, 52, 42, 32, 48, 10, 51, 32, 110, 97, 109, 101, 32, 115, 116, 114, 105, 110, 103, 63, 32, 110, 117, 108, 108, 10] = (wCs, [0], 0, 0) := by kernel_rfl
theorem pd_f1 : parseD [49, 32, 105, 100, 32, 105, 110, 116, 54, 52, 42, 32, 48] = ([], [], 0, 4) := by kernel_rfl
theorem pd_f2 : parseD [49, 32, 32, 105, 100, 32, 105, 110, 116, 54, 52, 42, 32, 48, 10] = ([], [], 0, 4) := by kernel_rfl
theorem pd_f3 : parseD [50, 32, 97, 32, 98, 111, 111, 108, 32, 102, 97, 108, 115, 101, 10, 49, 32, 98, 32, 98, 111, 111, 108, 32, 102, 97, 108, 115, 101, 10] = ([], [], 0, 2) := by kernel_rfl
theorem pd_f4 : parseD [] = ([], [], 0, 2) := by kernel_rfl
theorem pd_f5 : parseD [49, 32, 97, 32, 98, 111, 111, 108, 32, 102, 97, 108, 115, 101, 10, 50, 32, 98, 32, 105, 110, 116, 51, 50, 32, 50, 49, 52, 55, 52, 56, 51, 54, 52, 56, 10] = ([], [], 1, 4) := by kernel_rfl
theorem pd_f6 : parseD [49, 32, 97, 32, 105, 110, 116, 51, 50, 63, 42, 32, 48, 10] = ([], [], 0, 2) := by kernel_rfl
theorem pd_f7 : parseD [48, 49, 32, 97, 32, 98, 111, 111, 108, 32, 102, 97, 108, 115, 101, 10] = ([], [], 0, 4) := by kernel_rfl
end Go.Ms
set_option linter.unusedSimpArgs false
namespace Go.Proofs.YthlinmkengoliaaGreatDoor
open Go.RowKit Go.Ms Go.Lib
theorem parse_is {S : ByteArray} {w : World} {D : List Co × List Int × Nat × Int} (hs : S.size ≤ 20000) (hE : Env w) (h : parseD S.data.toList = D) {n m : Nat} {l : Int} (hn : D.1.length = n) (hm : D.2.1.length = m) (hl : ((D.2.2.1 : Nat) : Int) = l) :
    Calls Tryz.prog 27 #[.string S] w fun e w' => ∃ (A B : Option Addr) (c d : Nat), e = .returned (.tuple #[.agg #[.slice A n c, .slice B m d], .int .i64 l, .int .i64 D.2.2.2]) ∧ Lay w' w'.heap.size A (colV D.1) ∧ Lay w' w'.heap.size B (intV D.2.1) ∧ Below w.heap.size w w' := by
 subst h hn hm hl; exact scparse_any S w hs hE
set_option maxHeartbeats 1000000 in
theorem fails_yes {S : ByteArray} {w : World} {n : Nat} {er line : Int} (hs : S.size ≤ 20000) (hE : Env w) (h : parseD S.data.toList = ([], [], n, er)) (hl : (n : Int) = line) :
    Calls Tryz.prog 32 #[.string S, .int .i64 line, .int .i64 er] w fun e w' => e = .returned (.bool true) ∧ Below w.heap.size w w' := by
 have hp := parse_is hs hE h (n := 0) (m := 0) (l := line) rfl rfl hl; have HP := Lib.hid hp; clear hp h hl; simp only at HP
 go_enter Tryz.func32, Tryz.ntmps32
 go_wp2_with fail
 refine HP.out.mono ?_; rintro en w1 ⟨A, B, c, d, rfl, -, -, b1⟩
 go_wp2_with fail
 go_ret
 exact ⟨rfl, b1.alloc (by have := b1.size; omega) _⟩
set_option maxRecDepth 100000 in
set_option maxHeartbeats 4000000 in
theorem works_any (w : World) (hE : Env w) : Calls Tryz.prog 14 #[] w fun e w' => e = .returned (.bool true) ∧ Below w.heap.size w w' := by
 have hp := parse_is (S := ⟨#[49, 32, 105, 100, 32, 105, 110, 116, 54, 52, 42, 32, 48, 10, 51, 32, 110, 97, 109, 101, 32, 115, 116, 114, 105, 110, 103, 63, 32, 110, 117, 108, 108, 10]⟩) (w := w) (by decide) hE pd_works (n := 2) (m := 1) (l := 0) rfl rfl rfl
 have hplace := fun (w1 : World) A B c d (h : Lay w1 w1.heap.size A (colV wCs)) => place_any w1 A B 2 c 1 d wCs 3 (by unfold maxLen; omega) rfl h
 have hn1 := fun (w1 : World) A B c d (h : Lay w1 w1.heap.size A (colV wCs)) => named_any w1 A B 2 c 1 d wCs ⟨#[110, 97, 109, 101]⟩ (by unfold maxLen; omega) rfl h
 have hn2 := fun (w1 : World) A B c d (h : Lay w1 w1.heap.size A (colV wCs)) => named_any w1 A B 2 c 1 d wCs ⟨#[120]⟩ (by unfold maxLen; omega) rfl h
 rw [show coFind (fun c => decide (c.1 = 3)) wCs = (1, true) by kernel_rfl] at hplace; rw [show coFind (fun c => decide (c.2.1 = ⟨#[110, 97, 109, 101]⟩)) wCs = (1, true) by kernel_rfl] at hn1; rw [show coFind (fun c => decide (c.2.1 = ⟨#[120]⟩)) wCs = (0, false) by kernel_rfl] at hn2
 have hi0 := fun w1 : World => isname_any ⟨#[97]⟩ w1 (by decide)
 rw [show isNm (ByteArray.data ⟨#[97]⟩).toList = true by kernel_rfl] at hi0
 have hi1 := fun w1 : World => isname_any ⟨#[97, 95, 49]⟩ w1 (by decide)
 rw [show isNm (ByteArray.data ⟨#[97, 95, 49]⟩).toList = true by kernel_rfl] at hi1
 have hi2 := fun w1 : World => isname_any ⟨#[65]⟩ w1 (by decide)
 rw [show isNm (ByteArray.data ⟨#[65]⟩).toList = false by kernel_rfl] at hi2
 have hi3 := fun w1 : World => isname_any ⟨#[49, 97]⟩ w1 (by decide)
 rw [show isNm (ByteArray.data ⟨#[49, 97]⟩).toList = false by kernel_rfl] at hi3
 have hi4 := fun w1 : World => isname_any ⟨#[]⟩ w1 (by decide)
 rw [show isNm (ByteArray.data ⟨#[]⟩).toList = false by kernel_rfl] at hi4
 have hf0 := fun (w1 : World) (hb : Below w.heap.size w w1) => fails_yes (S := ⟨#[49, 32, 105, 100, 32, 105, 110, 116, 54, 52, 42, 32, 48]⟩) (w := w1) (line := 0) (by decide) (hE.below hb) pd_f1 rfl
 have hf1 := fun (w1 : World) (hb : Below w.heap.size w w1) => fails_yes (S := ⟨#[49, 32, 32, 105, 100, 32, 105, 110, 116, 54, 52, 42, 32, 48, 10]⟩) (w := w1) (line := 0) (by decide) (hE.below hb) pd_f2 rfl
 have hf2 := fun (w1 : World) (hb : Below w.heap.size w w1) => fails_yes (S := ⟨#[50, 32, 97, 32, 98, 111, 111, 108, 32, 102, 97, 108, 115, 101, 10, 49, 32, 98, 32, 98, 111, 111, 108, 32, 102, 97, 108, 115, 101, 10]⟩) (w := w1) (line := 0) (by decide) (hE.below hb) pd_f3 rfl
 have hf3 := fun (w1 : World) (hb : Below w.heap.size w w1) => fails_yes (S := ⟨#[]⟩) (w := w1) (line := 0) (by decide) (hE.below hb) pd_f4 rfl
 have hf4 := fun (w1 : World) (hb : Below w.heap.size w w1) => fails_yes (S := ⟨#[49, 32, 97, 32, 98, 111, 111, 108, 32, 102, 97, 108, 115, 101, 10, 50, 32, 98, 32, 105, 110, 116, 51, 50, 32, 50, 49, 52, 55, 52, 56, 51, 54, 52, 56, 10]⟩) (w := w1) (line := 1) (by decide) (hE.below hb) pd_f5 rfl
 have hf5 := fun (w1 : World) (hb : Below w.heap.size w w1) => fails_yes (S := ⟨#[49, 32, 97, 32, 105, 110, 116, 51, 50, 63, 42, 32, 48, 10]⟩) (w := w1) (line := 0) (by decide) (hE.below hb) pd_f6 rfl
 have hf6 := fun (w1 : World) (hb : Below w.heap.size w w1) => fails_yes (S := ⟨#[48, 49, 32, 97, 32, 98, 111, 111, 108, 32, 102, 97, 108, 115, 101, 10]⟩) (w := w1) (line := 0) (by decide) (hE.below hb) pd_f7 rfl
 have HP := Lib.hid hp; have HPLACE := Lib.hid hplace; have HN1 := Lib.hid hn1; have HN2 := Lib.hid hn2; have HI0 := Lib.hid hi0; have HI1 := Lib.hid hi1; have HI2 := Lib.hid hi2; have HI3 := Lib.hid hi3; have HI4 := Lib.hid hi4; have HF0 := Lib.hid hf0; have HF1 := Lib.hid hf1; have HF2 := Lib.hid hf2; have HF3 := Lib.hid hf3; have HF4 := Lib.hid hf4; have HF5 := Lib.hid hf5; have HF6 := Lib.hid hf6
 clear hp hplace hn1 hn2 hi0 hi1 hi2 hi3 hi4 hf0 hf1 hf2 hf3 hf4 hf5 hf6 hE
 go_enter Tryz.func14, Tryz.ntmps14
 go_wp2_with fail
 refine HP.out.mono ?_; rintro en w1 ⟨A, B, c, d, rfl, l1, l2, b1⟩; have q1 := block_new w1 (.cells #[.slice A 2 c, .slice B 1 d] 28); have s1 : Below w1.heap.size w1 (w1.alloc (.cells #[.slice A 2 c, .slice B 1 d] 28)) := (Below.refl _ w1).alloc (Nat.le_refl _) _; have HL1 := Lib.hid ((l1.below s1).more s1.size); have HL2 := Lib.hid ((l2.below s1).more s1.size); have HB := Lib.hid (b1.trans (s1.mono b1.size)); have HQ := Lib.hid q1; clear l1 l2 b1 s1 q1
 go_wp2_with fail
 refine (HPLACE.out _ A B c d HL1.out).mono ?_; rintro en w2 ⟨rfl, b2⟩; have HQ2 := Lib.hid (block_kept HQ.out b2); have x2 := cell_of_block (i := 0) HQ2.out rfl; have y2 := cell_of_block (i := 1) HQ2.out rfl; have HL1_2 := Lib.hid ((HL1.out.below b2).more b2.size); have HL2_2 := Lib.hid ((HL2.out.below b2).more b2.size); have HB2 := Lib.hid (HB.out.trans (b2.mono HB.out.size)); clear b2 HQ HL1 HL2 HB
 go_wp2_with fail
 refine (HN1.out _ A B c d HL1_2.out).mono ?_; rintro en w3 ⟨rfl, b3⟩; have HQ3 := Lib.hid (block_kept HQ2.out b3); have x3 := cell_of_block (i := 0) HQ3.out rfl; have y3 := cell_of_block (i := 1) HQ3.out rfl; have HL1_3 := Lib.hid ((HL1_2.out.below b3).more b3.size); have HL2_3 := Lib.hid ((HL2_2.out.below b3).more b3.size); have HB3 := Lib.hid (HB2.out.trans (b3.mono HB2.out.size)); clear b3 HQ2 HL1_2 HL2_2 HB2 x2 y2
 go_wp2_with fail
 refine (HN2.out _ A B c d HL1_3.out).mono ?_; rintro en w4 ⟨rfl, b4⟩; have HQ4 := Lib.hid (block_kept HQ3.out b4); have x4 := cell_of_block (i := 0) HQ4.out rfl; have y4 := cell_of_block (i := 1) HQ4.out rfl; have HL1_4 := Lib.hid ((HL1_3.out.below b4).more b4.size); have HL2_4 := Lib.hid ((HL2_3.out.below b4).more b4.size); have HB4 := Lib.hid (HB3.out.trans (b4.mono HB3.out.size)); clear b4 HQ3 HL1_3 HL2_3 HB3 x3 y3
 go_wp2_with fail
 refine (HI0.out _).mono ?_; rintro en w5 ⟨rfl, b5⟩; have HQ5 := Lib.hid (block_kept HQ4.out b5); have x5 := cell_of_block (i := 0) HQ5.out rfl; have y5 := cell_of_block (i := 1) HQ5.out rfl; have HL1_5 := Lib.hid ((HL1_4.out.below b5).more b5.size); have HL2_5 := Lib.hid ((HL2_4.out.below b5).more b5.size); have HB5 := Lib.hid (HB4.out.trans (b5.mono HB4.out.size)); clear b5 HQ4 HL1_4 HL2_4 HB4 x4 y4
 go_wp2_with fail
 refine (HI1.out _).mono ?_; rintro en w6 ⟨rfl, b6⟩; have HQ6 := Lib.hid (block_kept HQ5.out b6); have x6 := cell_of_block (i := 0) HQ6.out rfl; have y6 := cell_of_block (i := 1) HQ6.out rfl; have HL1_6 := Lib.hid ((HL1_5.out.below b6).more b6.size); have HL2_6 := Lib.hid ((HL2_5.out.below b6).more b6.size); have HB6 := Lib.hid (HB5.out.trans (b6.mono HB5.out.size)); clear b6 HQ5 HL1_5 HL2_5 HB5 x5 y5
 go_wp2_with fail
 refine (HI2.out _).mono ?_; rintro en w7 ⟨rfl, b7⟩; have HQ7 := Lib.hid (block_kept HQ6.out b7); have x7 := cell_of_block (i := 0) HQ7.out rfl; have y7 := cell_of_block (i := 1) HQ7.out rfl; have HL1_7 := Lib.hid ((HL1_6.out.below b7).more b7.size); have HL2_7 := Lib.hid ((HL2_6.out.below b7).more b7.size); have HB7 := Lib.hid (HB6.out.trans (b7.mono HB6.out.size)); clear b7 HQ6 HL1_6 HL2_6 HB6 x6 y6
 go_wp2_with fail
 refine (HI3.out _).mono ?_; rintro en w8 ⟨rfl, b8⟩; have HQ8 := Lib.hid (block_kept HQ7.out b8); have x8 := cell_of_block (i := 0) HQ8.out rfl; have y8 := cell_of_block (i := 1) HQ8.out rfl; have HL1_8 := Lib.hid ((HL1_7.out.below b8).more b8.size); have HL2_8 := Lib.hid ((HL2_7.out.below b8).more b8.size); have HB8 := Lib.hid (HB7.out.trans (b8.mono HB7.out.size)); clear b8 HQ7 HL1_7 HL2_7 HB7 x7 y7
 go_wp2_with fail
 refine (HI4.out _).mono ?_; rintro en w9 ⟨rfl, b9⟩; have HQ9 := Lib.hid (block_kept HQ8.out b9); have x9 := cell_of_block (i := 0) HQ9.out rfl; have y9 := cell_of_block (i := 1) HQ9.out rfl; have HL1_9 := Lib.hid ((HL1_8.out.below b9).more b9.size); have HL2_9 := Lib.hid ((HL2_8.out.below b9).more b9.size); have HB9 := Lib.hid (HB8.out.trans (b9.mono HB8.out.size)); clear b9 HQ8 HL1_8 HL2_8 HB8 x8 y8
 go_wp2_with fail
 have t1 : Below w9.heap.size w9 ((w9.alloc (.cells (colV wCs).toArray 37)).alloc (.cells (intV [0]).toArray 3)) := ((Below.refl _ _).alloc (Nat.le_refl _) _).alloc (by rw [World.size_alloc]; omega) _; have n1 := lay_new w9 (colV wCs) 37; have n2 := lay_new (w9.alloc (.cells (colV wCs).toArray 37)) (intV [0]) 3; have t2 : Below (w9.alloc (.cells (colV wCs).toArray 37)).heap.size (w9.alloc (.cells (colV wCs).toArray 37)) ((w9.alloc (.cells (colV wCs).toArray 37)).alloc (.cells (intV [0]).toArray 3)) := (Below.refl _ _).alloc (Nat.le_refl _) _
 have hsame := rscsame_any ((w9.alloc (.cells (colV wCs).toArray 37)).alloc (.cells (intV [0]).toArray 3)) A B (some ⟨w9.heap.size, 0, none⟩) (some ⟨w9.heap.size + 1, 0, none⟩) 2 c 1 d 2 2 1 1 wCs wCs [0] [0] (by unfold maxLen; omega) (by unfold maxLen; omega) (by unfold maxLen; omega) (by unfold maxLen; omega) rfl rfl rfl rfl
   ((HL1_9.out.below t1).more t1.size) ((HL2_9.out.below t1).more t1.size) ((n1.below t2).more t2.size) (by simp only [World.size_alloc] at n2 ⊢; exact n2)
 rw [decide_eq_true rfl, decide_eq_true rfl] at hsame; refine hsame.mono ?_; rintro en w10 ⟨rfl, b10⟩; have HX10 := Lib.hid ((HB9.out.trans (t1.mono HB9.out.size)).trans (b10.mono (Nat.le_trans HB9.out.size t1.size))); clear t1 n1 n2 t2 hsame b10 HB9 x9 y9 HQ9 HL1_9 HL2_9
 go_wp2_with fail
 refine (HF0.out _ HX10.out).mono ?_; rintro en w11 ⟨rfl, b11⟩; have HX11 := Lib.hid (HX10.out.trans (b11.mono HX10.out.size)); clear b11
 go_wp2_with fail
 refine (HF1.out _ HX11.out).mono ?_; rintro en w12 ⟨rfl, b12⟩; have HX12 := Lib.hid (HX11.out.trans (b12.mono HX11.out.size)); clear b12
 go_wp2_with fail
 refine (HF2.out _ HX12.out).mono ?_; rintro en w13 ⟨rfl, b13⟩; have HX13 := Lib.hid (HX12.out.trans (b13.mono HX12.out.size)); clear b13
 go_wp2_with fail
 refine (HF3.out _ HX13.out).mono ?_; rintro en w14 ⟨rfl, b14⟩; have HX14 := Lib.hid (HX13.out.trans (b14.mono HX13.out.size)); clear b14
 go_wp2_with fail
 refine (HF4.out _ HX14.out).mono ?_; rintro en w15 ⟨rfl, b15⟩; have HX15 := Lib.hid (HX14.out.trans (b15.mono HX14.out.size)); clear b15
 go_wp2_with fail
 refine (HF5.out _ HX15.out).mono ?_; rintro en w16 ⟨rfl, b16⟩; have HX16 := Lib.hid (HX15.out.trans (b16.mono HX15.out.size)); clear b16
 go_wp2_with fail
 refine (HF6.out _ HX16.out).mono ?_; rintro en w17 ⟨rfl, b17⟩; have HX17 := Lib.hid (HX16.out.trans (b17.mono HX16.out.size)); clear b17
 go_wp2_with fail
 go_ret
 exact ⟨rfl, HX17.out⟩
end Go.Proofs.YthlinmkengoliaaGreatDoor
namespace Go.Ms
open Go.RowKit Go.Lib Go.ChangeShapes Go.WideShapes Go.Deep
def ClIn (c : Cl) : Prop := c.2.2.size ≤ maxLen ∧ -9223372036854775808 ≤ c.2.1 ∧ c.2.1 ≤ 9223372036854775807
def I64 (n : Int) : Prop := -9223372036854775808 ≤ n ∧ n ≤ 9223372036854775807
def ColIn (c : Co) : Prop := I64 c.1 ∧ c.2.1.size ≤ maxLen ∧ I64 c.2.2.1.1 ∧ ClIn c.2.2.2
theorem I64.of {n : Int} (h : (Lit.int .i64 n).wf = true) : I64 n := bounds_i64 h
section
variable {H : Type} {enc : TypeId × Value → H} {P : Program} {w : World} {base : Nat} {spare : Nat → Bool} {held : Bool}
theorem flat_at {α : Type} (f : α → List Value) (k : Nat) (hk : ∀ x, (f x).length = k) : ∀ (l : List α) (j : Nat) (u : Value), (l.flatMap f)[j]? = some u → 0 < k → ∃ x, l[j / k]? = some x ∧ (f x)[j % k]? = some u
  | [], j, u, h, _ => by simp at h
  | a :: t, j, u, h, h0 => by
   rw [List.flatMap_cons] at h
   by_cases hj : j < k
   · rw [List.getElem?_append_left (by rw [hk]; exact hj)] at h; exact ⟨a, by rw [Nat.div_eq_of_lt hj]; rfl, by rw [Nat.mod_eq_of_lt hj]; exact h⟩
   · rw [List.getElem?_append_right (by rw [hk]; omega), hk] at h; obtain ⟨x, h1, h2⟩ := flat_at f k hk t (j - k) u h h0; refine ⟨x, ?_, ?_⟩
     · rw [Nat.div_eq_sub_div h0 (by omega)]; simpa using h1
     · rw [Nat.mod_eq_sub_mod (by omega)]; exact h2
theorem open_list_at {α : Type} (f : α → List Value) (ok : α → Prop) {t e : TypeId} {k : Nat} (hk : ∀ x, (f x).length = k) (hk0 : 0 < k) (ht : P.underlying t = some (.slice e)) (hC : P.cellsOf e = k)
    (hel : ∀ n cs' y, DataW.trod enc P w base spare held n e cs' = some y → ∃ x, cs' = f x ∧ ok x)
    {fuel : Nat} {v : Value} {x : DataW H × List MemPlace} (hf : DataW.trod enc P w base spare held fuel t [v] = some x) :
    ∃ (A : Option Addr) (len cap : Nat) (l : List α), v = .slice A len cap ∧ l.length = len ∧ len ≤ cap ∧ cap ≤ maxLen ∧ (∀ x ∈ l, ok x) ∧ ∀ j u, (l.flatMap f)[j]? = some u → ∃ a, A = some a ∧ a.block < w.heap.size ∧ w.cell? (a.add j) = some u := by
 rcases open_slice ht hf with ⟨hcs, _⟩ | ⟨a, len, cap, m, n, D, Pl, hcs, hb, hl, hm, hmm, hx, hi⟩
 · obtain rfl : v = .slice none 0 0 := by simpa using hcs
   exact ⟨none, 0, 0, [], rfl, rfl, Nat.le_refl _, by unfold maxLen; omega, by simp, by simp⟩
 · obtain rfl : v = .slice (some a) len cap := by simpa using hcs
   have hlm : len ≤ m := by rw [hmm]; split <;> omega
   have hex : ∀ i, i < len → ∃ x, ok x ∧ ∀ j u, (f x)[j]? = some u → w.cell? (a.add (i * k + j)) = some u := by
    intro i hil
    obtain ⟨cs', hc, ht'⟩ := hi i (by omega); obtain ⟨x, rfl, hok⟩ := hel _ _ _ ht'; refine ⟨x, hok, fun j u hu => ?_⟩; obtain ⟨_, _, hat⟩ := World.cells?_some hc
    have hj : j < k := by rw [← hk x]; exact (List.getElem?_eq_some_iff.1 hu).1
    have := hat j (by rw [hC]; exact hj); rw [hC] at this; rw [← Go.Deep.add_add, this, hu]
   have hlist : ∃ l : List α, l.length = len ∧ (∀ x ∈ l, ok x) ∧ ∀ i x, l[i]? = some x → ∀ j u, (f x)[j]? = some u → w.cell? (a.add (i * k + j)) = some u := by
    refine ⟨List.ofFn fun i : Fin len => Classical.choose (hex i.1 i.2), by simp, ?_, ?_⟩
    · intro x hx
      obtain ⟨i, hi, rfl⟩ := List.getElem_of_mem hx; rw [List.getElem_ofFn]; exact (Classical.choose_spec (hex i (by simpa using hi))).1
    · intro i x hx
      obtain ⟨hi, rfl⟩ := List.getElem?_eq_some_iff.1 hx; rw [List.getElem_ofFn]; exact (Classical.choose_spec (hex i (by simpa using hi))).2
   obtain ⟨l, h1, h2, h3⟩ := hlist; refine ⟨some a, len, cap, l, rfl, h1, hl, hm, h2, fun j u hu => ⟨a, rfl, ?_, ?_⟩⟩
   · have hj : 0 < l.length := by
       rcases l with _ | ⟨x, t⟩
       · simp at hu
       · simp
     obtain ⟨cs', hc, _⟩ := hi 0 (by omega); obtain ⟨_, hcl, hat⟩ := World.cells?_some hc; have h0 := hat 0 (by rw [hC]; exact hk0); have hv0 : cs'[0]? = some (cs'[0]'(by rw [hcl, hC]; exact hk0)) := List.getElem?_eq_getElem _; rw [hv0] at h0; have := World.block_lt_of_cell? w _ h0
     simp [adr_block] at this
     exact this
   · obtain ⟨x, hx, hxu⟩ := flat_at f k hk l j u hu hk0; have := h3 _ x hx _ u hxu
     rwa [Nat.div_add_mod' ] at this
theorem open_list {α : Type} (f : α → List Value) (ok : α → Prop) {t e : TypeId} {k : Nat} (hk : ∀ x, (f x).length = k) (hk0 : 0 < k) (ht : P.underlying t = some (.slice e)) (hC : P.cellsOf e = k)
    (hel : ∀ n cs' y, DataW.trod enc P w base spare held n e cs' = some y → ∃ x, cs' = f x ∧ ok x)
    {r : Reach} {b0 : Nat} {v : Value} {d : DataW H} {p : List MemPlace} (hv : Value.okWide P w r b0 t v) (h : DataW.Trod enc P w base spare held t v d p) :
    ∃ (A : Option Addr) (len cap : Nat) (l : List α), v = .slice A len cap ∧ l.length = len ∧ len ≤ cap ∧ cap ≤ maxLen ∧ (∀ x ∈ l, ok x) ∧ ∀ j u, (l.flatMap f)[j]? = some u → ∃ a, A = some a ∧ a.block < w.heap.size ∧ w.cell? (a.add j) = some u := by
 obtain ⟨A, len, cap, rfl⟩ := okWide_slice ht hv; obtain ⟨fuel, hf⟩ := h; exact open_list_at f ok hk hk0 ht hC hel hf
end
end Go.Ms
namespace Go.Proofs.YthlinmkengoliaaGreatDoor
open Go.RowKit Go.Ms Go.Lib Go.ChangeShapes Go.WideShapes Go.Deep
theorem len2 {α : Type} {l : List α} (h : l.length = 2) : ∃ a b, l = [a, b] := by
 match l, h with
 | [a, b], _ => exact ⟨a, b, rfl⟩
theorem len3 {α : Type} {l : List α} (h : l.length = 3) : ∃ a b c, l = [a, b, c] := by
 match l, h with
 | [a, b, c], _ => exact ⟨a, b, c, rfl⟩
theorem len4 {α : Type} {l : List α} (h : l.length = 4) : ∃ a b c d, l = [a, b, c, d] := by
 match l, h with
 | [a, b, c, d], _ => exact ⟨a, b, c, d, rfl⟩
theorem len7 {α : Type} {l : List α} (h : l.length = 7) : ∃ a b c d e f g, l = [a, b, c, d, e, f, g] := by
 match l, h with
 | [a, b, c, d, e, f, g], _ => exact ⟨a, b, c, d, e, f, g, rfl⟩
section
variable {H : Type} {enc : TypeId × Value → H} {w : World} {base : Nat} {spare : Nat → Bool} {held : Bool}
theorem cells_bool : Tryz.prog.cellsOf 4 = 1 := by kernel_rfl
theorem cells_i64 : Tryz.prog.cellsOf 2 = 1 := by kernel_rfl
theorem cells_int : Tryz.prog.cellsOf 3 = 1 := by kernel_rfl
theorem cells_str : Tryz.prog.cellsOf 9 = 1 := by kernel_rfl
theorem cells_cell : Tryz.prog.cellsOf 35 = 3 := by kernel_rfl
theorem cells_type : Tryz.prog.cellsOf 33 = 2 := by kernel_rfl
theorem cells_col : Tryz.prog.cellsOf 37 = 7 := by kernel_rfl
theorem cell_el {n : Nat} {cs' : List Value} {y : DataW H × List MemPlace} (h : DataW.trod enc Tryz.prog w base spare held n 35 cs' = some y) : ∃ x : Cl, cs' = clV x ∧ ClIn x := by
 obtain ⟨xs, n', _, _, hl, hxl, hf⟩ := DataW.trod_struct Tryz.underlying35 h; rw [cells_cell] at hl; obtain ⟨y0, y1, y2, rfl⟩ := len3 (show xs.length = 3 from hxl); obtain ⟨c0, c1, c2, rfl⟩ := len3 hl; have h0 : DataW.trod enc Tryz.prog w base spare held n' 4 (([c0, c1, c2].drop 0).take (Tryz.prog.cellsOf 4)) = some y0 := hf 0 _ rfl; rw [cells_bool] at h0; have h1 : DataW.trod enc Tryz.prog w base spare held n' 2 (([c0, c1, c2].drop 1).take (Tryz.prog.cellsOf 2)) = some y1 := hf 1 _ rfl; rw [cells_i64] at h1
 have h2 : DataW.trod enc Tryz.prog w base spare held n' 9 (([c0, c1, c2].drop 2).take (Tryz.prog.cellsOf 9)) = some y2 := hf 2 _ rfl; rw [cells_str] at h2; obtain ⟨u, e0, _⟩ := DataW.trod_bool Tryz.underlying4 (show DataW.trod enc Tryz.prog w base spare held n' 4 [c0] = some y0 from h0); obtain ⟨m, e1, _, wm⟩ := DataW.trod_int Tryz.underlying2 (show DataW.trod enc Tryz.prog w base spare held n' 2 [c1] = some y1 from h1); obtain ⟨s, e2, _, ws⟩ := DataW.trod_string Tryz.underlying9 (show DataW.trod enc Tryz.prog w base spare held n' 9 [c2] = some y2 from h2)
 obtain rfl : c0 = .bool u := by simpa using e0
 obtain rfl : c1 = .int .i64 m := by simpa using e1
 obtain rfl : c2 = .string s := by simpa using e2
 exact ⟨(u, m, s), rfl, ws, I64.of wm⟩
theorem type_el {n : Nat} {cs' : List Value} {y : DataW H × List MemPlace} (h : DataW.trod enc Tryz.prog w base spare held n 33 cs' = some y) : ∃ x : Ty, cs' = [.int .i64 x.1, .bool x.2] ∧ I64 x.1 := by
 obtain ⟨xs, n', _, _, hl, hxl, hf⟩ := DataW.trod_struct Tryz.underlying33 h; rw [cells_type] at hl; obtain ⟨y0, y1, rfl⟩ := len2 (show xs.length = 2 from hxl); obtain ⟨c0, c1, rfl⟩ := len2 hl; have h0 : DataW.trod enc Tryz.prog w base spare held n' 3 (([c0, c1].drop 0).take (Tryz.prog.cellsOf 3)) = some y0 := hf 0 _ rfl; rw [cells_int] at h0; have h1 : DataW.trod enc Tryz.prog w base spare held n' 4 (([c0, c1].drop 1).take (Tryz.prog.cellsOf 4)) = some y1 := hf 1 _ rfl; rw [cells_bool] at h1
 obtain ⟨m, e0, _, wm⟩ := DataW.trod_int Tryz.underlying3 (show DataW.trod enc Tryz.prog w base spare held n' 3 [c0] = some y0 from h0); obtain ⟨u, e1, _⟩ := DataW.trod_bool Tryz.underlying4 (show DataW.trod enc Tryz.prog w base spare held n' 4 [c1] = some y1 from h1)
 obtain rfl : c0 = .int .i64 m := by simpa using e0
 obtain rfl : c1 = .bool u := by simpa using e1
 exact ⟨(m, u), rfl, I64.of wm⟩
theorem col_el {n : Nat} {cs' : List Value} {y : DataW H × List MemPlace} (h : DataW.trod enc Tryz.prog w base spare held n 37 cs' = some y) : ∃ x : Co, cs' = coV x ∧ ColIn x := by
 obtain ⟨xs, n', _, _, hl, hxl, hf⟩ := DataW.trod_struct Tryz.underlying37 h; rw [cells_col] at hl; obtain ⟨y0, y1, y2, y3, rfl⟩ := len4 (show xs.length = 4 from hxl); obtain ⟨c0, c1, c2, c3, c4, c5, c6, rfl⟩ := len7 hl; have h0 : DataW.trod enc Tryz.prog w base spare held n' 3 (([c0, c1, c2, c3, c4, c5, c6].drop 0).take (Tryz.prog.cellsOf 3)) = some y0 := hf 0 _ rfl; rw [cells_int] at h0; have h1 : DataW.trod enc Tryz.prog w base spare held n' 9 (([c0, c1, c2, c3, c4, c5, c6].drop 1).take (Tryz.prog.cellsOf 9)) = some y1 := hf 1 _ rfl; rw [cells_str] at h1
 have h2 : DataW.trod enc Tryz.prog w base spare held n' 33 (([c0, c1, c2, c3, c4, c5, c6].drop 2).take (Tryz.prog.cellsOf 33)) = some y2 := hf 2 _ rfl; rw [cells_type] at h2; have h3 : DataW.trod enc Tryz.prog w base spare held n' 35 (([c0, c1, c2, c3, c4, c5, c6].drop 4).take (Tryz.prog.cellsOf 35)) = some y3 := hf 3 _ rfl; rw [cells_cell] at h3; obtain ⟨m, e0, _, wm⟩ := DataW.trod_int Tryz.underlying3 (show DataW.trod enc Tryz.prog w base spare held n' 3 [c0] = some y0 from h0)
 obtain ⟨s, e1, _, ws⟩ := DataW.trod_string Tryz.underlying9 (show DataW.trod enc Tryz.prog w base spare held n' 9 [c1] = some y1 from h1); obtain ⟨t, e2, wt⟩ := type_el (show DataW.trod enc Tryz.prog w base spare held n' 33 [c2, c3] = some y2 from h2); obtain ⟨c, e3, wc⟩ := cell_el (show DataW.trod enc Tryz.prog w base spare held n' 35 [c4, c5, c6] = some y3 from h3)
 obtain rfl : c0 = .int .i64 m := by simpa using e0
 obtain rfl : c1 = .string s := by simpa using e1
 have e2' : c2 = .int .i64 t.1 ∧ c3 = .bool t.2 := by simpa using e2
 have e3' : c4 = .bool c.1 ∧ c5 = .int .i64 c.2.1 ∧ c6 = .string c.2.2 := by simpa [clV] using e3
 obtain ⟨rfl, rfl⟩ := e2'; obtain ⟨rfl, rfl, rfl⟩ := e3'; exact ⟨(m, s, t, c), rfl, I64.of wm, ws, wt, wc⟩
def oneI (n : Int) : List Value := [.int .i64 n]
theorem oneI_len (n : Int) : (oneI n).length = 1 := rfl
theorem int_el {n : Nat} {cs' : List Value} {y : DataW H × List MemPlace} (h : DataW.trod enc Tryz.prog w base spare held n 3 cs' = some y) : ∃ x : Int, cs' = oneI x ∧ I64 x := by
 obtain ⟨m, e, _, wm⟩ := DataW.trod_int Tryz.underlying3 h; exact ⟨m, e, I64.of wm⟩
theorem ext_ints {B : Nat} {A : Option Addr} {l : List Int} (h : Ext w B A (l.flatMap oneI)) : Ext w B A (intV l) := by
 have e : intV l = l.flatMap oneI := by
  clear h
  induction l with
  | nil => rfl
  | cons a t ih => show .int .i64 a :: intV t = [.int .i64 a] ++ t.flatMap oneI; rw [ih]; rfl
 rw [e]; exact h
end
end Go.Proofs.YthlinmkengoliaaGreatDoor
namespace Go.Ms
open Go.RowKit Go.Lib
theorem rowV_flat (l : List Cl) : rowV l = l.flatMap clV := rfl
theorem clV_len (c : Cl) : (clV c).length = 3 := rfl
theorem coV_len (c : Co) : (coV c).length = 7 := rfl
theorem colsV_len (l : List Co) : (colV l).length = l.length * 7 := by
 induction l with
 | nil => rfl
 | cons a t ih => show (coV a ++ colV t).length = _; rw [List.length_append, ih, List.length_cons, coV_len]; omega
theorem colsV_at : ∀ (l : List Co) (i : Nat) (c : Co), l[i]? = some c → ∀ j u, (coV c)[j]? = some u → (colV l)[i * 7 + j]? = some u
  | [], i, c, h, _, _, _ => by simp at h
  | a :: t, 0, c, h, j, u, hu => by
   have h : a = c := by simpa using h
   subst h
   show (coV a ++ colV t)[0 * 7 + j]? = _
   rw [List.getElem?_append_left (by have := (List.getElem?_eq_some_iff.1 hu).1; omega), Nat.zero_mul, Nat.zero_add]; exact hu
  | a :: t, i + 1, c, h, j, u, hu => by
   have ih := colsV_at t i c (by simpa using h) j u hu
   show (coV a ++ colV t)[(i + 1) * 7 + j]? = _
   rw [List.getElem?_append_right (by rw [coV_len]; omega), coV_len, show (i + 1) * 7 + j - 7 = i * 7 + j by omega]; exact ih
theorem colsV_take (l : List Co) : ∀ (n : Nat), (colV l).take (n * 7) = colV (l.take n) := by
 induction l with
 | nil => intro n; simp [colV]
 | cons a t ih =>
  intro n
  cases n with
  | zero => simp [colV]
  | succ n =>
   show (coV a ++ colV t).take ((n + 1) * 7) = coV a ++ colV (t.take n)
   rw [List.take_append, coV_len, show (n + 1) * 7 - 7 = n * 7 by omega, ih n, List.take_of_length_le (by rw [coV_len]; omega)]
theorem colsV_one (l : List Co) : ∀ u ∈ colV l, u.oneCell' = true := by
 intro u hu
 obtain ⟨c, _, h⟩ := List.mem_flatMap.1 hu; simp only [coV, List.mem_cons, List.not_mem_nil, or_false] at h
 rcases h with rfl | rfl | rfl | rfl | rfl | rfl | rfl <;> rfl
def colTy (c : Co) : Ty := c.2.2.1
theorem cols_of {w : World} {B : Nat} {A : Option Addr} {l : List Co} (h : Lay w B A (colV l)) : Cols w B A (l.map colTy) (colV l) := by
 refine ⟨by rw [colsV_len, List.length_map], h, fun i t ht => ?_⟩; rw [List.getElem?_map] at ht; obtain ⟨c, hc, rfl⟩ := Option.map_eq_some_iff.1 ht; exact ⟨colsV_at l i c hc 2 _ rfl, colsV_at l i c hc 3 _ rfl⟩
end Go.Ms
set_option linter.unusedSimpArgs false
namespace Go.Ms
open Go.RowKit Go.Lib
theorem colV_set : ∀ (l : List Co) (k : Nat) (c : Co), k < l.length → ((((((((colV l).set (k * 7) (.int .i64 c.1)).set (k * 7 + 1) (.string c.2.1)).set (k * 7 + 2) (.int .i64 c.2.2.1.1)).set (k * 7 + 3) (.bool c.2.2.1.2)).set (k * 7 + 4) (.bool c.2.2.2.1)).set (k * 7 + 5) (.int .i64 c.2.2.2.2.1)).set (k * 7 + 6) (.string c.2.2.2.2.2)) = colV (l.set k c)
  | [], k, c, h => by simp at h
  | a :: t, 0, c, h => rfl
  | a :: t, k + 1, c, h => by
   have ih := colV_set t k c (by simpa using h)
   have ec : ∀ (x : Co) (m : List Co), colV (x :: m) = .int .i64 x.1 :: .string x.2.1 :: .int .i64 x.2.2.1.1 :: .bool x.2.2.1.2 :: .bool x.2.2.2.1 :: .int .i64 x.2.2.2.2.1 :: .string x.2.2.2.2.2 :: colV m := fun _ _ => rfl
   have e0 : (k + 1) * 7 = k * 7 + 7 := by omega
   rw [List.set_cons_succ, ec, ec, e0]; simp only [Nat.add_assoc, Nat.reduceAdd, List.set_cons_succ]; rw [ih]
theorem own_co {w : World} {B n cap g : Nat} {e : TypeId} {l : List Co} {k : Nat} {c : Co} (h : OwnCo w B e (.slice (some ⟨g, 0, none⟩) n cap) l) (hc : l[k]? = some c) :
    w.cell? ⟨g, k * 7, none⟩ = some (.int .i64 c.1) ∧ w.cell? ⟨g, k * 7 + 1, none⟩ = some (.string c.2.1) ∧ w.cell? ⟨g, k * 7 + 2, none⟩ = some (.int .i64 c.2.2.1.1) ∧ w.cell? ⟨g, k * 7 + 3, none⟩ = some (.bool c.2.2.1.2) ∧ w.cell? ⟨g, k * 7 + 4, none⟩ = some (.bool c.2.2.2.1) ∧ w.cell? ⟨g, k * 7 + 5, none⟩ = some (.int .i64 c.2.2.2.2.1) ∧ w.cell? ⟨g, k * 7 + 6, none⟩ = some (.string c.2.2.2.2.2) ∧
    w.frozen? ⟨g, k * 7, none⟩ = false ∧ w.frozen? ⟨g, k * 7 + 1, none⟩ = false ∧ w.frozen? ⟨g, k * 7 + 2, none⟩ = false ∧ w.frozen? ⟨g, k * 7 + 3, none⟩ = false ∧ w.frozen? ⟨g, k * 7 + 4, none⟩ = false ∧ w.frozen? ⟨g, k * 7 + 5, none⟩ = false ∧ w.frozen? ⟨g, k * 7 + 6, none⟩ = false := by
 have hl := h.lay; have hk : k < l.length := (List.getElem?_eq_some_iff.1 hc).1; have k7 := colV_at l k c hc
 have h' : w.ownsRow B e 7 (.slice (some ⟨g, 0, none⟩) n cap) n (colV l) := by unfold OwnCo at h; rw [← hl.1] at h; exact h
 have hn := hl.1
 have hcell : ∀ j, j < n * 7 → w.cell? ⟨g, j, none⟩ = (colV l)[j]? := fun j hj => World.ownsRow.cellAt h' j hj
 refine ⟨(hcell _ (by omega)).trans (k7 0 _ rfl), (hcell _ (by omega)).trans (k7 1 _ rfl), (hcell _ (by omega)).trans (k7 2 _ rfl), (hcell _ (by omega)).trans (k7 3 _ rfl), (hcell _ (by omega)).trans (k7 4 _ rfl), (hcell _ (by omega)).trans (k7 5 _ rfl), (hcell _ (by omega)).trans (k7 6 _ rfl),
   World.ownsRow.frozenAt h' _, World.ownsRow.frozenAt h' _, World.ownsRow.frozenAt h' _, World.ownsRow.frozenAt h' _, World.ownsRow.frozenAt h' _, World.ownsRow.frozenAt h' _, World.ownsRow.frozenAt h' _⟩
theorem own_put {w : World} {B n cap g : Nat} {e : TypeId} {l : List Co} {k : Nat} (h : OwnCo w B e (.slice (some ⟨g, 0, none⟩) n cap) l) (hk : k < l.length) (c : Co) :
    OwnCo (((((((w.setCell ⟨g, k * 7, none⟩ (.int .i64 c.1)).setCell ⟨g, k * 7 + 1, none⟩ (.string c.2.1)).setCell ⟨g, k * 7 + 2, none⟩ (.int .i64 c.2.2.1.1)).setCell ⟨g, k * 7 + 3, none⟩ (.bool c.2.2.1.2)).setCell ⟨g, k * 7 + 4, none⟩ (.bool c.2.2.2.1)).setCell ⟨g, k * 7 + 5, none⟩ (.int .i64 c.2.2.2.2.1)).setCell ⟨g, k * 7 + 6, none⟩ (.string c.2.2.2.2.2)) B e (.slice (some ⟨g, 0, none⟩) n cap) (l.set k c) := by
 have hl := h.lay
 have h' : w.ownsRow B e 7 (.slice (some ⟨g, 0, none⟩) n cap) n (colV l) := by unfold OwnCo at h; rw [← hl.1] at h; exact h
 unfold OwnCo; rw [List.length_set, ← hl.1, ← colV_set l k c hk]; exact (World.ownsRow.stored (World.ownsRow.stored (World.ownsRow.stored (World.ownsRow.stored (World.ownsRow.stored (World.ownsRow.stored (World.ownsRow.stored h' _ _).1 _ _).1 _ _).1 _ _).1 _ _).1 _ _).1 _ _).1
def cutCo (c : Co) : Co := (c.1, c.2.1.extract 0 (min c.2.1.size 40), c.2.2.1, (c.2.2.2.1, c.2.2.2.2.1, c.2.2.2.2.2.extract 0 (min c.2.2.2.2.2.size 1100)))
theorem cut_step {l : List Co} {k : Nat} {c : Co} (hc : l[k]? = some c) : (((l.take k).map cutCo ++ l.drop k).set k (cutCo c)) = (l.take (k + 1)).map cutCo ++ l.drop (k + 1) := by
 have hk : k < l.length := (List.getElem?_eq_some_iff.1 hc).1
 have e1 : ((l.take k).map cutCo).length = k := by rw [List.length_map, List.length_take]; omega
 have e2 : l.drop k = c :: l.drop (k + 1) := by
  have := List.getElem?_eq_some_iff.1 hc; rw [List.drop_eq_getElem_cons hk, this.2]
 rw [List.set_append_right _ _ (by omega), e1, Nat.sub_self, e2, List.set_cons_zero, List.take_add_one, hc]
 simp
theorem cut_at {l : List Co} {k : Nat} {c : Co} (hc : l[k]? = some c) : ((l.take k).map cutCo ++ l.drop k)[k]? = some c := by
 have hk : k < l.length := (List.getElem?_eq_some_iff.1 hc).1
 have e1 : ((l.take k).map cutCo).length = k := by rw [List.length_map, List.length_take]; omega
 rw [List.getElem?_append_right (by omega), e1, Nat.sub_self, List.getElem?_drop]; exact hc
structure FewSt (tS : TypeId) (tC tI : TypeId) (w : World) (v1 v2 : Value) (l : List Co) (ks : List Int) (wr : World) : Prop where
  box : wr.heap[w.heap.size]? = some (.cells #[v1, v2] tS (0, 0))
  res : wr.heap[w.heap.size + 1]? = some (.cells #[.slice none 0 0, .slice none 0 0] tS (0, 0))
  o1 : OwnCo wr (w.heap.size + 2) tC v1 l
  o2 : OwnI wr (w.heap.size + 2) tI v2 ks
  bel : Below w.heap.size w wr
theorem FewSt.step {tS tC tI : TypeId} {w wr w' : World} {v1 v2 : Value} {l : List Co} {ks : List Int} (h : FewSt tS tC tI w v1 v2 l ks wr) (hb : Below wr.heap.size wr w') : FewSt tS tC tI w v1 v2 l ks w' :=
  ⟨block_kept h.box hb, block_kept h.res hb, own_below h.o1 hb, own_below h.o2 hb, h.bel.trans (hb.mono h.bel.size)⟩
theorem grown7 (w : World) (g i : Nat) (a b c d e f x : Value) : w.grownBy (((((((w.setCell ⟨g, i, none⟩ a).setCell ⟨g, i + 1, none⟩ b).setCell ⟨g, i + 2, none⟩ c).setCell ⟨g, i + 3, none⟩ d).setCell ⟨g, i + 4, none⟩ e).setCell ⟨g, i + 5, none⟩ f).setCell ⟨g, i + 6, none⟩ x) (some g) :=
  (((((((grown_set' w g i a).trans (grown_set' _ g (i + 1) b)).trans (grown_set' _ g (i + 2) c)).trans (grown_set' _ g (i + 3) d)).trans (grown_set' _ g (i + 4) e)).trans (grown_set' _ g (i + 5) f)).trans (grown_set' _ g (i + 6) x))
theorem FewSt.put {tS tC tI : TypeId} (hne : tC ≠ tI) {w wr : World} {n cap g k : Nat} {v2 : Value} {l : List Co} {ks : List Int} (h : FewSt tS tC tI w (.slice (some ⟨g, 0, none⟩) n cap) v2 l ks wr) (hk : k < l.length) (c : Co) :
    FewSt tS tC tI w (.slice (some ⟨g, 0, none⟩) n cap) v2 (l.set k c) ks (((((((wr.setCell ⟨g, k * 7, none⟩ (.int .i64 c.1)).setCell ⟨g, k * 7 + 1, none⟩ (.string c.2.1)).setCell ⟨g, k * 7 + 2, none⟩ (.int .i64 c.2.2.1.1)).setCell ⟨g, k * 7 + 3, none⟩ (.bool c.2.2.1.2)).setCell ⟨g, k * 7 + 4, none⟩ (.bool c.2.2.2.1)).setCell ⟨g, k * 7 + 5, none⟩ (.int .i64 c.2.2.2.2.1)).setCell ⟨g, k * 7 + 6, none⟩ (.string c.2.2.2.2.2)) := by
 have hg := grown7 wr g (k * 7) (.int .i64 c.1) (.string c.2.1) (.int .i64 c.2.2.1.1) (.bool c.2.2.1.2) (.bool c.2.2.2.1) (.int .i64 c.2.2.2.2.1) (.string c.2.2.2.2.2); have hb := (World.ownsRow.lt h.o1 g rfl).1; refine ⟨(hg.block _ (Array.getElem?_eq_some_iff.1 h.box).1 (fun e => by cases e; omega)).trans h.box, (hg.block _ (Array.getElem?_eq_some_iff.1 h.res).1 (fun e => by cases e; omega)).trans h.res, own_put h.o1 hk c, World.ownsRow.kept h.o2 hg ?_, h.bel.grown hg h.bel.size (fun k e => by cases e; omega)⟩; have := own_apart h.o2 h.o1 (Ne.symm hne)
 simpa [Value.ownBlock] using this
end Go.Ms
namespace Go.Proofs.YthlinmkengoliaaGreatDoor
open Go.RowKit Go.Ms Go.Lib
set_option maxRecDepth 100000 in
set_option maxHeartbeats 4000000 in
theorem few11_any (w : World) (A B : Option Addr) (n cap m capm : Nat) (cs : List Co) (ks : List Int) (hn : n ≤ cap) (hcap : cap ≤ maxLen) (hcs : cs.length = n) (hA : Ext w w.heap.size A (colV cs)) (hm : m ≤ capm) (hcapm : capm ≤ maxLen) (hks : ks.length = m) (hB : Ext w w.heap.size B (intV ks)) :
    Calls Tryz.prog 15 #[.agg #[.slice A n cap, .slice B m capm]] w fun e w' => ∃ A' c' B' d', e = .returned (.agg #[.slice A' (min n 40) c', .slice B' (min m 12) d']) ∧ OwnCo w' w.heap.size 37 (.slice A' (min n 40) c') ((cs.take 40).map cutCo) ∧ OwnI w' w.heap.size 3 (.slice B' (min m 12) d') (ks.take 12) ∧ Below w.heap.size w w' := by
 obtain ⟨N, hN⟩ : ∃ N : Nat, N = min n 40 := ⟨_, rfl⟩; obtain ⟨M, hM⟩ : ∃ M : Nat, M = min m 12 := ⟨_, rfl⟩; rw [← hN, ← hM]; obtain ⟨X, hX⟩ : ∃ X, X = (w.alloc (.cells #[.slice A n cap, .slice B m capm] 28)).alloc (.cells #[.slice none 0 0, .slice none 0 0] 28) := ⟨_, rfl⟩
 have bX : Below w.heap.size w X := by rw [hX]; exact ((Below.refl _ w).alloc (Nat.le_refl _) _).alloc (by rw [World.size_alloc]; omega) _
 have sX : X.heap.size = w.heap.size + 2 := by rw [hX]; simp only [World.size_alloc]
 have q0 : X.heap[w.heap.size]? = some (.cells #[.slice A n cap, .slice B m capm] 28 (0, 0)) := by rw [hX]; exact block_next (block_new _ _) _
 have q1 : X.heap[w.heap.size + 1]? = some (.cells #[.slice none 0 0, .slice none 0 0] 28 (0, 0)) := by rw [hX]; have := block_new (w.alloc (.cells #[.slice A n cap, .slice B m capm] 28)) (.cells #[.slice none 0 0, .slice none 0 0] 28); rw [World.size_alloc] at this; exact this
 have hc1 := copycols_any X A N cap (colV (cs.take 40)) (by omega) (by rw [colV_len, List.length_take]; omega) (by rw [show colV (cs.take 40) = (colV cs).take (40 * 7) from (colsV_take cs 40).symm]; exact ((hA.keep bX).more bX.size).take _) (colV_one _)
 have hc2 := fun (w1 : World) (h : Below w.heap.size w w1) => copyints_any w1 B M capm (ks.take 12) (by omega) (by rw [List.length_take]; omega) (by unfold intV; rw [List.map_take]; exact ((hB.keep h).more h.size).take 12)
 have hmin1 : min (n : Int) 40 = (N : Int) := by omega
 have hmin2 : min (m : Int) 12 = (M : Int) := by omega
 have hN1 : (N : Int) ≤ cap := by omega
 have hM1 : (M : Int) ≤ capm := by omega
 have hN2 : (0 : Int) ≤ (N : Int) := by omega
 have hM2 : (0 : Int) ≤ (M : Int) := by omega
 have hNc : N ≤ cap := by omega
 have hMc : M ≤ capm := by omega
 have hNl : (cs.take 40).length = N := by rw [List.length_take]; omega
 have hMl : (ks.take 12).length = M := by rw [List.length_take]; omega
 have hN40 : N ≤ 40 := by omega
 generalize hls : cs.take 40 = l at hc1 hNl ⊢
 generalize hkk : ks.take 12 = kk at hc2 hMl ⊢
 have y0 := cell_of_block (i := 0) q0 rfl; have y1 := cell_of_block (i := 1) q0 rfl; have g0 := frozen_of_block (i := 0) q0; unfold maxLen at hcap hcapm
 have HC1 := Lib.hid hc1; have HC2 := Lib.hid hc2; have BX := Lib.hid bX; have SX := Lib.hid sX; have Q0 := Lib.hid q0; have Q1 := Lib.hid q1; have HNL := Lib.hid hNl; have HML := Lib.hid hMl
 clear hc1 hc2 bX q0 q1 hA hB hls hkk hcs hks hN hM hNl hMl
 go_enter Tryz.func15, Tryz.ntmps15
 go_wp2_with fail
 rw [← hX]; clear hX sX
 go_wp2_with fail
 refine HC1.out.mono ?_; rintro en w1 ⟨v, rfl, ho1, b1⟩; obtain ⟨A1, c1, e1, _⟩ := yown_slice ho1; subst e1; have p0 := block_kept Q0.out b1; have p1 := block_kept Q1.out b1; have f0 := frozen_of_block (i := 0) p0; have x0 := cell_of_block (i := 0) p0 rfl; have x1 := cell_of_block (i := 1) p0 rfl; have hb1 := BX.out.trans (b1.mono BX.out.size)
 have O1 := Lib.hid (own_more ho1 (Nat.le_of_eq SX.out.symm)); have P0 := Lib.hid p0; have P1 := Lib.hid p1; have B1 := Lib.hid hb1
 clear ho1 b1 p0 p1 hb1 y0 y1 g0
 go_wp2_with fail
 refine (HC2.out _ (B1.out.setCell (p := ⟨w.heap.size, 0, none⟩) (Nat.le_refl _) _)).mono ?_; rintro en w2 ⟨v, rfl, ho2, b2⟩; obtain ⟨B2, d2, e2, _⟩ := yown_slice ho2; rw [HML.out] at e2; subst e2
 have hst : FewSt 28 37 3 w (.slice A1 N c1) (.slice B2 M d2) l kk (w2.setCell ⟨w.heap.size, 1, none⟩ (.slice B2 M d2)) := by
  have hz := SX.out; have hz1 := B1.out.size
  have hz2 : w.heap.size + 2 ≤ (w1.setCell ⟨w.heap.size, 0, none⟩ (.slice A1 N c1)).heap.size := by
   rw [World.size_setCell]; have := (Array.getElem?_eq_some_iff.1 P1.out).1; omega
  refine ⟨two_set1 (block_kept (two_set0 P0.out _) b2) _, far_set (block_kept (far_set P1.out (by omega) _) b2) (by omega) _, ?_, own_set' (own_more ho2 hz2) (by omega) _, (((B1.out.setCell (p := ⟨w.heap.size, 0, none⟩) (Nat.le_refl _) _).trans (b2.mono (by omega))).setCell (p := ⟨w.heap.size, 1, none⟩) (Nat.le_refl _) _)⟩; unfold OwnCo; rw [HNL.out]; exact own_set' (own_below (own_set' O1.out (by omega) _) b2) (by omega) _
 have q2 := block_kept (two_set0 P0.out (.slice A1 N c1)) b2; have f1 := frozen_of_block (i := 1) q2; have x3 := cell_of_block (i := 1) q2 rfl; have HST := Lib.hid hst; clear hst ho2 b2 q2 x0 x1 f0
 go_wp2_with fail
 go_loopw [3] (fun i wr => ∃ k : Nat, k ≤ N ∧ i = .int .i64 k ∧ FewSt 28 37 3 w (.slice A1 N c1) (.slice B2 M d2) ((l.take k).map cutCo ++ l.drop k) kk wr) (fun i _ => N - (RowKit.intOf i).toNat)
 case atStart => exact ⟨0, by omega, rfl, by simpa using HST.out⟩
 case round =>
  obtain ⟨k, hk, rfl, hs⟩ := hrel; have z0 := cell_of_block (i := 0) hs.box rfl; have z1 := cell_of_block (i := 1) hs.box rfl
  by_cases hlk : k < N
  · have hki : (k : Int) < N := by omega
    obtain ⟨c, hc⟩ : ∃ c, l[k]? = some c := ⟨_, List.getElem?_eq_getElem (by rw [HNL.out]; omega)⟩; have hca := cut_at hc
    obtain ⟨g, rfl⟩ : ∃ g, A1 = some ⟨g, 0, none⟩ := by
     rcases hs.o1.2 with ⟨_, h0⟩ | ⟨g, cap', cur, hv, _⟩
     · have := (List.getElem?_eq_some_iff.1 hca).1; omega
     · injection hv with h1; exact ⟨g, h1⟩
    obtain ⟨hgb, hgl⟩ := World.ownsRow.lt hs.o1 g rfl; have hlen : k < ((l.take k).map cutCo ++ l.drop k).length := (List.getElem?_eq_some_iff.1 hca).1; have hstep := cut_step hc; obtain ⟨i0, s0, ⟨k0, u0⟩, n0, m0, t0⟩ := c; obtain ⟨a, ha⟩ : ∃ a : Nat, a = min s0.size 40 := ⟨_, rfl⟩; obtain ⟨b, hb⟩ : ∃ b : Nat, b = min t0.size 1100 := ⟨_, rfl⟩
    have hcut : cutCo ((i0, s0, (k0, u0), n0, m0, t0) : Co) = (i0, s0.extract 0 a, (k0, u0), n0, m0, t0.extract 0 b) := by unfold cutCo; rw [ha, hb]
    have ma : min (s0.size : Int) 40 = (a : Int) := by omega
    have mb : min (t0.size : Int) 1100 = (b : Int) := by omega
    have la : (a : Int) ≤ s0.size := by omega
    have lb : (b : Int) ≤ t0.size := by omega
    have la0 : (0 : Int) ≤ (a : Int) := by omega
    have lb0 : (0 : Int) ≤ (b : Int) := by omega
    have la1 : a ≤ s0.size := by omega
    have lb1 : b ≤ t0.size := by omega
    obtain ⟨c0, c1', c2, c3, c4, c5, c6, h0, h1, h2, h3, h4, h5, h6⟩ := own_co hs.o1 hca; have hs2 := hs.step ((Below.refl wr.heap.size wr).alloc (Nat.le_refl _) (.cells #[.int .i64 i0, .string (s0.extract 0 a), .int .i64 k0, .bool u0, .bool n0, .int .i64 m0, .string (t0.extract 0 b)] 37)); obtain ⟨e0, e1, e2, e3, e4, e5, e6, f0, f1', f2, f3, f4, f5, f6⟩ := own_co hs2.o1 hca; have hp := hs.put (by decide) hlen ((i0, s0.extract 0 a, (k0, u0), n0, m0, t0.extract 0 b) : Co); rw [← hcut, hstep, hcut] at hp
    have hp2 := hp.step ((Below.refl _ _).alloc (Nat.le_refl _) (.cells #[.int .i64 i0, .string (s0.extract 0 a), .int .i64 k0, .bool u0, .bool n0, .int .i64 m0, .string (t0.extract 0 b)] 37)); have zz0 := cell_of_block (i := 0) hs2.box rfl
    have hne : g ≠ wr.heap.size := by omega
    simp only at c0 c1' c2 c3 c4 c5 c6 e0 e1 e2 e3 e4 e5 e6
    have HP := Lib.hid hp2; have HS := Lib.hid hs; have HC := Lib.hid hc; have HS2 := Lib.hid hs2
    clear hp hp2 hs hc hs2 hca hstep hcut ha hb hlen
    go_wp2_with fail
    refine ⟨⟨k + 1, by omega, by go_num, HP.out⟩, ?_⟩
    simp [RowKit.intOf]; omega
  · have hki : ¬ (k : Int) < N := by omega
    obtain rfl : k = N := by omega
    have hfin : (l.take k).map cutCo ++ l.drop k = l.map cutCo := by
     rw [List.take_of_length_le (by rw [HNL.out]; omega), List.drop_eq_nil_of_le (by rw [HNL.out]; omega), List.append_nil]
    rw [hfin] at hs; have zr0 := frozen_of_block (i := 0) hs.res; have zr1 := frozen_of_block (i := 1) hs.res; have zs0 := cell_of_block (i := 0) hs.res rfl; have zs1 := cell_of_block (i := 1) hs.res rfl; have HS := Lib.hid hs; clear hs hfin
    go_wp2_with fail
    have hr := two_set1 (two_set0 HS.out.res (.slice A1 k c1)) (.slice B2 M d2); have r0 := cell_of_block (i := 0) hr rfl; have r1 := cell_of_block (i := 1) hr rfl; refine bodyPost_ret (v := .agg #[.slice A1 k c1, .slice B2 M d2]) (by simp [results, Tryz.results15, go_sem, r0, r1]) rfl ?_
    exact ⟨A1, c1, B2, d2, rfl, own_more (own_set' (own_set' HS.out.o1 (by omega) _) (by omega) _) (by omega), own_more (own_set' (own_set' HS.out.o2 (by omega) _) (by omega) _) (by omega), (HS.out.bel.setCell (p := ⟨w.heap.size + 1, 0, none⟩) (by simp only; omega) _).setCell (p := ⟨w.heap.size + 1, 1, none⟩) (by simp only; omega) _⟩
end Go.Proofs.YthlinmkengoliaaGreatDoor
set_option linter.unusedSimpArgs false
namespace Go.Ms
open Go.RowKit Go.Lib
theorem isNm_long {s : Bs} (h : 32 < s.length) : isNm s = false := by
 unfold isNm; rw [decide_eq_false (show ¬ s.length ≤ 32 by omega)]
 simp
structure ScL (w : World) (A B : Option Addr) (cs : List Co) (ks : List Int) : Prop where
  a : Lay w w.heap.size A (colV cs)
  b : Lay w w.heap.size B (intV ks)
theorem ScL.below {w w' : World} {A B : Option Addr} {cs : List Co} {ks : List Int} (h : ScL w A B cs ks) (hb : Below w.heap.size w w') : ScL w' A B cs ks := ⟨(h.a.below hb).more hb.size, (h.b.below hb).more hb.size⟩
theorem ScL.own {w : World} {B0 B1 : Nat} {tC tI : TypeId} {A B : Option Addr} {n c m d : Nat} {cs : List Co} {ks : List Int} (h1 : OwnCo w B0 tC (.slice A n c) cs) (h2 : OwnI w B1 tI (.slice B m d) ks) : ScL w A B cs ks := ⟨h1.lay.2, h2.lay.2⟩
def scut (cs : List Co) : List Co := (cs.take 40).map cutCo
theorem scut_small {cs : List Co} (h : ∀ c ∈ cs, ColIn c) : ∀ c ∈ scut cs, c.2.1.size ≤ 100000 ∧ c.2.2.2.2.2.size ≤ 100000 ∧ -9223372036854775808 ≤ c.2.2.2.2.1 ∧ c.2.2.2.2.1 ≤ 9223372036854775807 := by
 intro c hc
 obtain ⟨x, hx, rfl⟩ := List.mem_map.1 hc; have hi := h x (List.mem_of_mem_take hx); unfold cutCo; simp only [ByteArray.size_extract]; exact ⟨by omega, by omega, hi.2.2.2.2.1, hi.2.2.2.2.2⟩
theorem scut_len (cs : List Co) : (scut cs).length = min cs.length 40 := by
 unfold scut; rw [List.length_map, List.length_take, Nat.min_comm]
end Go.Ms
namespace Go.Proofs.YthlinmkengoliaaGreatDoor
open Go.RowKit Go.Ms Go.Lib
theorem isname_all (S : ByteArray) (w : World) (hs : S.size ≤ maxLen) :
    Calls Tryz.prog 13 #[.string S] w fun e w' => e = .returned (.bool (isNm S.data.toList)) ∧ Below w.heap.size w w' := by
 by_cases h : S.size ≤ 100000
 · exact isname_any S w h
 · unfold maxLen at hs
   have hl : S.data.toList.length = S.size := by simp
   rw [isNm_long (by omega)]
   have h0 : ¬ S.size = 0 := by omega
   have h1 : (32 : Int) < S.size := by omega
   have h2 : ¬ S.toList = [] := by rw [Lib.toList_data]; intro e; rw [e] at hl; simp at hl; omega
   have h3 : S.toList.isEmpty = false := by rw [List.isEmpty_eq_false_iff]; exact h2
   clear hl
   go_enter Tryz.func13, Tryz.ntmps13
   go_wp2_with fail
   go_ret
   exact ⟨rfl, Below.refl _ _⟩
theorem risname_all (S : ByteArray) (w : World) (hs : S.size ≤ maxLen) :
    Calls Tryz.prog 18 #[.string S] w fun e w' => e = .returned (.bool (isNm S.data.toList)) ∧ Below w.heap.size w w' := by
 by_cases h : S.size ≤ 100000
 · exact risname_any S w h
 · unfold maxLen at hs
   have hl : S.data.toList.length = S.size := by simp
   rw [isNm_long (by omega)]
   have h0 : ¬ S.size < 1 := by omega
   have h0' : ¬ (S.size : Int) < 1 := by omega
   have h1 : (32 : Int) < S.size := by omega
   clear hl
   go_enter Tryz.func18, Tryz.ntmps18
   go_wp2_with fail
   go_ret
   exact ⟨rfl, Below.refl _ _⟩
end Go.Proofs.YthlinmkengoliaaGreatDoor
set_option linter.unusedSimpArgs false
namespace Go.Ms
open Go.RowKit Go.Lib
structure SpSt (tS tC tI : TypeId) (w : World) (B b3 b7 b8 : Nat) (v3 v3' v7 v7' : Value) (L : List (Option Addr × List Value)) (A8 : Option Addr) (N c8 : Nat) (K8 : Option Addr) (M d8 : Nat) (wr : World) : Prop where
  x3 : wr.heap[b3]? = some (.cells #[v3, v3'] tS (0, 0))
  x7 : wr.heap[b7]? = some (.cells #[v7, v7'] tS (0, 0))
  x8 : wr.heap[b8]? = some (.cells #[.slice A8 N c8, .slice K8 M d8] tS (0, 0))
  ly : ∀ p ∈ L, Lay wr B p.1 p.2
  oc : ∃ lc : List Co, lc.length = N ∧ OwnCo wr B tC (.slice A8 N c8) lc
  ok : ∃ lk : List Int, lk.length = M ∧ OwnI wr B tI (.slice K8 M d8) lk
  bel : Below w.heap.size w wr
  h3 : b3 < B
  h7 : b7 < B
  hw : w.heap.size ≤ B
  hB : B ≤ wr.heap.size
section
variable {tS tC tI : TypeId} {w : World} {B b3 b7 b8 : Nat} {v3 v3' v7 v7' : Value} {L : List (Option Addr × List Value)} {A8 K8 : Option Addr} {N c8 M d8 : Nat} {wr : World}
theorem SpSt.step {w' : World} (h : SpSt tS tC tI w B b3 b7 b8 v3 v3' v7 v7' L A8 N c8 K8 M d8 wr) (hb : Below wr.heap.size wr w') : SpSt tS tC tI w B b3 b7 b8 v3 v3' v7 v7' L A8 N c8 K8 M d8 w' := by
 obtain ⟨lc, h1, h2⟩ := h.oc; obtain ⟨lk, h3, h4⟩ := h.ok; exact ⟨block_kept h.x3 hb, block_kept h.x7 hb, block_kept h.x8 hb, fun p hp => (h.ly p hp).below (hb.mono h.hB), ⟨lc, h1, own_below h2 hb⟩, ⟨lk, h3, own_below h4 hb⟩, h.bel.trans (hb.mono h.bel.size), h.h3, h.h7, h.hw, Nat.le_trans h.hB hb.size⟩
theorem SpSt.spot {k : Nat} (h : SpSt tS tC tI w B b3 b7 b8 v3 v3' v7 v7' L A8 N c8 K8 M d8 wr) (hk : k < N) : ∃ g, A8 = some ⟨g, 0, none⟩ ∧ ∃ c : Co,
    wr.cell? ⟨g, k * 7, none⟩ = some (.int .i64 c.1) ∧ wr.cell? ⟨g, k * 7 + 1, none⟩ = some (.string c.2.1) ∧ wr.cell? ⟨g, k * 7 + 2, none⟩ = some (.int .i64 c.2.2.1.1) ∧ wr.cell? ⟨g, k * 7 + 3, none⟩ = some (.bool c.2.2.1.2) ∧ wr.cell? ⟨g, k * 7 + 4, none⟩ = some (.bool c.2.2.2.1) ∧ wr.cell? ⟨g, k * 7 + 5, none⟩ = some (.int .i64 c.2.2.2.2.1) ∧ wr.cell? ⟨g, k * 7 + 6, none⟩ = some (.string c.2.2.2.2.2) ∧
    wr.frozen? ⟨g, k * 7, none⟩ = false ∧ wr.frozen? ⟨g, k * 7 + 1, none⟩ = false ∧ wr.frozen? ⟨g, k * 7 + 2, none⟩ = false ∧ wr.frozen? ⟨g, k * 7 + 3, none⟩ = false ∧ wr.frozen? ⟨g, k * 7 + 4, none⟩ = false ∧ wr.frozen? ⟨g, k * 7 + 5, none⟩ = false ∧ wr.frozen? ⟨g, k * 7 + 6, none⟩ = false := by
 obtain ⟨lc, h1, h2⟩ := h.oc; obtain ⟨c, hc⟩ : ∃ c, lc[k]? = some c := ⟨_, List.getElem?_eq_getElem (by omega)⟩
 obtain ⟨g, rfl⟩ : ∃ g, A8 = some ⟨g, 0, none⟩ := by
  rcases h2.2 with ⟨_, h0⟩ | ⟨g, cap', cur, hv, _⟩
  · omega
  · injection hv with h1; exact ⟨g, h1⟩
 exact ⟨g, rfl, c, own_co h2 hc⟩
theorem own_not {w : World} {B s n b g cap : Nat} {e t : TypeId} {xs cs : List Value} (h : w.ownsRow B e s (.slice (some ⟨g, 0, none⟩) n cap) n xs) (hb : w.heap[b]? = some (.cells cs.toArray t (0, 0))) (hne : e ≠ t) : b ≠ g := by
 intro e1
 subst e1
 rcases h.2 with ⟨h0, _⟩ | ⟨g', cap', cur, hv, _, hg, _⟩
 · cases h0
 · simp only [Value.slice.injEq, Option.some.injEq, Addr.mk.injEq, and_true, true_and] at hv; obtain ⟨rfl, _⟩ := hv; rw [hg] at hb
   cases hb
   exact hne rfl
theorem SpSt.putc {k g : Nat} (h : SpSt tS tC tI w B b3 b7 b8 v3 v3' v7 v7' L (some ⟨g, 0, none⟩) N c8 K8 M d8 wr) (hk : k < N) (h1 : tC ≠ tS) (h2 : tI ≠ tC) (c : Co) :
    SpSt tS tC tI w B b3 b7 b8 v3 v3' v7 v7' L (some ⟨g, 0, none⟩) N c8 K8 M d8 (((((((wr.setCell ⟨g, k * 7, none⟩ (.int .i64 c.1)).setCell ⟨g, k * 7 + 1, none⟩ (.string c.2.1)).setCell ⟨g, k * 7 + 2, none⟩ (.int .i64 c.2.2.1.1)).setCell ⟨g, k * 7 + 3, none⟩ (.bool c.2.2.1.2)).setCell ⟨g, k * 7 + 4, none⟩ (.bool c.2.2.2.1)).setCell ⟨g, k * 7 + 5, none⟩ (.int .i64 c.2.2.2.2.1)).setCell ⟨g, k * 7 + 6, none⟩ (.string c.2.2.2.2.2)) := by
 obtain ⟨lc, e1, e2⟩ := h.oc; obtain ⟨lk, e3, e4⟩ := h.ok; have hg := grown7 wr g (k * 7) (.int .i64 c.1) (.string c.2.1) (.int .i64 c.2.2.1.1) (.bool c.2.2.1.2) (.bool c.2.2.2.1) (.int .i64 c.2.2.2.2.1) (.string c.2.2.2.2.2); have hb := (World.ownsRow.lt e2 g rfl).1
 have e2' : wr.ownsRow B tC 7 (.slice (some ⟨g, 0, none⟩) N c8) N (colV lc) := by unfold OwnCo at e2; rw [e1] at e2; exact e2
 have n8 : b8 ≠ g := own_not (cs := [_, _]) e2' h.x8 h1; have hw := h.hw
 have hk3 := h.h3; have hk7 := h.h7
 refine ⟨(hg.block _ (Array.getElem?_eq_some_iff.1 h.x3).1 (fun e => by cases e; omega)).trans h.x3, (hg.block _ (Array.getElem?_eq_some_iff.1 h.x7).1 (fun e => by cases e; omega)).trans h.x7, (hg.block _ (Array.getElem?_eq_some_iff.1 h.x8).1 (fun e => n8 (Option.some.inj e))).trans h.x8,
   fun p hp => (h.ly p hp).below ((Below.refl B wr).grown hg h.hB (fun k e => by cases e; exact hb)), ⟨lc.set k c, by rw [List.length_set]; exact e1, own_put e2 (by omega) c⟩, ⟨lk, e3, World.ownsRow.kept e4 hg ?_⟩,
   h.bel.grown hg h.bel.size (fun k e => by cases e; omega), h.h3, h.h7, h.hw, Nat.le_trans h.hB hg.size⟩
 have := own_apart e4 e2 h2
 simpa [Value.ownBlock] using this
theorem SpSt.spotk {k : Nat} (h : SpSt tS tC tI w B b3 b7 b8 v3 v3' v7 v7' L A8 N c8 K8 M d8 wr) (hk : k < M) : ∃ g, K8 = some ⟨g, 0, none⟩ ∧ ∃ x : Int, wr.cell? ⟨g, k, none⟩ = some (.int .i64 x) ∧ wr.frozen? ⟨g, k, none⟩ = false := by
 obtain ⟨lk, h1, h2⟩ := h.ok
 obtain ⟨g, rfl⟩ : ∃ g, K8 = some ⟨g, 0, none⟩ := by
  rcases h2.2 with ⟨_, h0⟩ | ⟨g, cap', cur, hv, _⟩
  · omega
  · injection hv with h1; exact ⟨g, h1⟩
 have h2' : wr.ownsRow B tI 1 (.slice (some ⟨g, 0, none⟩) M d8) M (intV lk) := by unfold OwnI at h2; rw [h1] at h2; exact h2
 refine ⟨g, rfl, lk[k]'(by omega), ?_, World.ownsRow.frozenAt h2' _⟩; rw [World.ownsRow.cellAt h2' k (by omega)]; unfold intV; rw [List.getElem?_map, List.getElem?_eq_getElem (by omega)]; rfl
theorem SpSt.putk {k g : Nat} (h : SpSt tS tC tI w B b3 b7 b8 v3 v3' v7 v7' L A8 N c8 (some ⟨g, 0, none⟩) M d8 wr) (hk : k < M) (h1 : tI ≠ tS) (h2 : tC ≠ tI) (x : Int) :
    SpSt tS tC tI w B b3 b7 b8 v3 v3' v7 v7' L A8 N c8 (some ⟨g, 0, none⟩) M d8 (wr.setCell ⟨g, k, none⟩ (.int .i64 x)) := by
 obtain ⟨lc, e1, e2⟩ := h.oc; obtain ⟨lk, e3, e4⟩ := h.ok
 have e4' : wr.ownsRow B tI 1 (.slice (some ⟨g, 0, none⟩) M d8) M (intV lk) := by unfold OwnI at e4; rw [e3] at e4; exact e4
 obtain ⟨hs, hg⟩ := World.ownsRow.stored e4' k (.int .i64 x); have hb := (World.ownsRow.lt e4 g rfl).1; have n8 : b8 ≠ g := own_not (cs := [_, _]) e4' h.x8 h1; have hw := h.hw
 have hk3 := h.h3; have hk7 := h.h7
 refine ⟨(hg.block _ (Array.getElem?_eq_some_iff.1 h.x3).1 (fun e => by cases e; omega)).trans h.x3, (hg.block _ (Array.getElem?_eq_some_iff.1 h.x7).1 (fun e => by cases e; omega)).trans h.x7, (hg.block _ (Array.getElem?_eq_some_iff.1 h.x8).1 (fun e => n8 (Option.some.inj e))).trans h.x8,
   fun p hp => (h.ly p hp).below ((Below.refl B wr).grown hg h.hB (fun k e => by cases e; exact hb)), ⟨lc, e1, World.ownsRow.kept e2 hg ?_⟩, ⟨lk.set k x, by rw [List.length_set]; exact e3, ?_⟩,
   h.bel.grown hg h.bel.size (fun k e => by cases e; omega), h.h3, h.h7, h.hw, Nat.le_trans h.hB hg.size⟩
 · have := own_apart e2 e4 h2
   simpa [Value.ownBlock] using this
 · unfold OwnI; rw [List.length_set, e3]
   have : intV (lk.set k x) = (intV lk).set k (.int .i64 x) := by unfold intV; rw [List.map_set]
   rw [this]; exact hs
end
end Go.Ms
