/- Schemas: a text read. -/
import Derived.Test.YtikpmmipopmjaaaGreatDoorZSe
import Derived.Test.YtikpmmipopmjaaaGreatDoorZQt
import Derived.Test.YtikpmmipopmjaaaGreatDoorZQu
set_option linter.unusedVariables false
set_option linter.unusedSimpArgs false
namespace Go.Ms
open Go.RowKit Go.Lib
def readLs : List Co → List Int → List ByteArray → Option (List Co × List Int)
  | cs, ks, [] => some (cs, ks)
  | cs, ks, l :: r => match lineRead l.data.toList with
   | none => none
   | some x => readLs (cs ++ [x.1]) (if x.2 = true then ks ++ [(cs.length : Int)] else ks) r
theorem readLs_snoc {l : ByteArray} {x : Co × Bool} (hx : lineRead l.data.toList = some x) : ∀ (pre : List ByteArray) (cs cs' : List Co) (ks ks' : List Int), readLs cs ks pre = some (cs', ks') →
    readLs cs ks (pre ++ [l]) = some (cs' ++ [x.1], if x.2 = true then ks' ++ [(cs'.length : Int)] else ks')
  | [], cs, cs', ks, ks', h => by
   simp only [readLs, Option.some.injEq, Prod.mk.injEq] at h; obtain ⟨rfl, rfl⟩ := h; simp only [List.nil_append, readLs, hx]
  | a :: r, cs, cs', ks, ks', h => by
   rw [List.cons_append, readLs]; rw [readLs] at h
   cases ha : lineRead a.data.toList with
   | none => rw [ha] at h; cases h
   | some y =>
    rw [ha] at h; exact readLs_snoc hx r _ _ _ _ h
theorem strip_nl {l : Bs} : stripB 10 (l ++ [10]) = (l, true) := by
 unfold stripB; rw [if_pos (by simp), List.dropLast_concat]
theorem lineRead_end (l : Bs) : lineRead (l ++ [10]) = readCo l := by unfold lineRead; rw [strip_nl]; rfl
theorem lineRead_none {l : Bs} (h : (10 : UInt8) ∉ l) : lineRead l = none := by
 have h2 : ¬ l.getLast? = some 10 := fun e => h (List.mem_of_getLast? e)
 simp [lineRead, stripB, h2]
theorem readLs_all (t : Bs) (ht : (10 : UInt8) ∉ t) : ∀ (ls : List Bs) (cs : List Co) (ks : List Int),
    readLs cs ks ((ls.map (fun l => l ++ [10]) ++ (if t = [] then [] else [t])).map fun l => (⟨l.toArray⟩ : ByteArray)) =
      if ((readAll cs ks ls).2.2 && decide (t = [])) = true then some ((readAll cs ks ls).1, (readAll cs ks ls).2.1) else none
  | [], cs, ks => by
   by_cases h : t = []
   · subst h; simp [readLs, readAll]
   · simp only [h, List.map_nil, List.nil_append, if_false, List.map_cons, readLs, readAll, decide_false, Bool.and_false, Bool.false_eq_true]; rw [lineRead_none ht]
  | l :: ls, cs, ks => by
   rw [List.map_cons, List.cons_append, List.map_cons, readLs, readAll]
   have e : ∀ b : Bs, (ByteArray.mk b.toArray).data.toList = b := fun _ => rfl
   simp only [e, lineRead_end]
   cases h : readCo l with
   | none => simp
   | some x => exact readLs_all t ht ls _ _
theorem readLs_stop (t : Bs) (ht : (10 : UInt8) ∉ t) {x : ByteArray} (hx : lineRead x.data.toList = none) : ∀ (ls : List Bs) (pre : List ByteArray) (cs cs' : List Co) (ks ks' : List Int),
    (pre ++ [x]) <+: ((ls.map (fun l => l ++ [10]) ++ (if t = [] then [] else [t])).map fun l => (⟨l.toArray⟩ : ByteArray)) → readLs cs ks pre = some (cs', ks') →
    ((readAll cs ks ls).2.2 && decide (t = [])) = false ∧ (readAll cs ks ls).1 = cs'
  | [], pre, cs, cs', ks, ks', hp, hr => by
   by_cases h : t = []
   · simp [h] at hp
   · simp only [h, List.map_nil, List.nil_append, if_false, List.map_cons] at hp; have hl := hp.length_le
     simp at hl
     obtain rfl : pre = [] := hl; simp only [readLs, Option.some.injEq, Prod.mk.injEq] at hr
     simp [readAll, h, hr.1]
  | l :: ls, [], cs, cs', ks, ks', hp, hr => by
   simp only [List.nil_append, List.map_cons, List.cons_append] at hp; obtain rfl := (List.cons_prefix_cons.1 hp).1; simp only [readLs, Option.some.injEq, Prod.mk.injEq] at hr; have e : (ByteArray.mk (l ++ [10]).toArray).data.toList = l ++ [10] := rfl; rw [e, lineRead_end] at hx; rw [readAll, hx]; exact ⟨rfl, hr.1⟩
  | l :: ls, a :: r, cs, cs', ks, ks', hp, hr => by
   simp only [List.map_cons, List.cons_append] at hp; obtain ⟨rfl, hp2⟩ := List.cons_prefix_cons.1 hp; have e : (ByteArray.mk (l ++ [10]).toArray).data.toList = l ++ [10] := rfl; rw [readLs, e, lineRead_end] at hr; rw [readAll]
   cases h : readCo l with
   | none => rw [h] at hr; cases hr
   | some y =>
    rw [h] at hr; exact readLs_stop t ht hx ls r _ _ _ _ hp2 hr
theorem linesL_flat (s : Bs) : (linesL s).flatten = s := by
 have h := splitNl_back s; unfold linesL; rw [List.flatten_append, ← List.flatMap_def]
 conv => rhs; rw [h]
 congr 1
 split
 · rename_i e; rw [e]; rfl
 · simp
theorem linesB_size {S x : ByteArray} (h : x ∈ linesB S) : x.size ≤ S.size := by
 unfold linesB at h; obtain ⟨l, hl, rfl⟩ := List.mem_map.1 h; have h1 := (List.sublist_flatten_of_mem hl).length_le; rw [linesL_flat] at h1
 have h2 : S.data.toList.length = S.size := by simp
 have h3 : (ByteArray.mk l.toArray).size = l.length := List.size_toArray; omega
theorem parse_stop {S x : ByteArray} {pre : List ByteArray} {cs : List Co} {ks : List Int} (hp : (pre ++ [x]) <+: linesB S) (hr : readLs [] [] pre = some (cs, ks)) (hx : lineRead x.data.toList = none) :
    (parseR S.data.toList).2.2 = false ∧ (parseR S.data.toList).1 = cs := by
 unfold linesB linesL at hp; unfold parseR; exact readLs_stop _ (splitNl_no _).2 hx _ _ _ _ _ _ hp hr
theorem readLs_ok : ∀ (ls : List ByteArray) (cs cs' : List Co) (ks ks' : List Int), (∀ c ∈ cs, coOk c = true) → readLs cs ks ls = some (cs', ks') → (∀ c ∈ cs', coOk c = true) ∧ cs'.length = cs.length + ls.length ∧ ks'.length ≤ ks.length + ls.length
  | [], cs, cs', ks, ks', h, hr => by
   simp only [readLs, Option.some.injEq, Prod.mk.injEq] at hr; obtain ⟨rfl, rfl⟩ := hr; exact ⟨h, by simp, by simp⟩
  | l :: ls, cs, cs', ks, ks', h, hr => by
   rw [readLs] at hr
   cases hl : lineRead l.data.toList with
   | none => rw [hl] at hr; cases hr
   | some x =>
    rw [hl] at hr
    obtain ⟨h1, h2, h3⟩ := readLs_ok ls _ _ _ _ (fun c hc => by
     rcases List.mem_append.1 hc with h1 | h1
     · exact h c h1
     · have : c = x.1 := by simpa using h1
       subst this; unfold lineRead at hl
       split at hl
       · exact (readCo_ok (c := x.1) (key := x.2) hl).1
       · cases hl) hr
    refine ⟨h1, by rw [h2]; simp; omega, ?_⟩
    split at h3 <;> simp at h3 ⊢ <;> omega
theorem linesB_len (S : ByteArray) : (linesB S).length ≤ S.size := by
 have h0 : ∀ l : List Bs, (∀ x ∈ l, x ≠ []) → l.length ≤ l.flatten.length := by
  intro l
  induction l with
  | nil => simp
  | cons a t ih =>
   intro h
   have h1 : a.length ≠ 0 := fun e => h a (by simp) (List.eq_nil_of_length_eq_zero e)
   have h2 := ih fun x hx => h x (by simp [hx])
   simp only [List.length_cons, List.flatten_cons, List.length_append]; omega
 unfold linesB; rw [List.length_map]; refine Nat.le_trans (h0 _ fun x hx => ?_) (by rw [linesL_flat]; simp); unfold linesL at hx
 rcases List.mem_append.1 hx with h | h
 · obtain ⟨l, _, rfl⟩ := List.mem_map.1 h
   simp
 · split at h
   · cases h
   · rename_i e; simp at h; rw [h]; exact e
theorem readLs_parse (S : ByteArray) : readLs [] [] (linesB S) = if (parseR S.data.toList).2.2 = true then some ((parseR S.data.toList).1, (parseR S.data.toList).2.1) else none := by
 unfold linesB linesL parseR; exact readLs_all _ (splitNl_no _).2 _ [] []
end Go.Ms
