/- Rows: words for lists that lie in memory, cell by cell: cells, whole numbers, columns. Rows, plainly: what is checked, compared and picked; keys, put together and taken apart. Rows: lists of one's own, appended to from a list that lies in memory. -/
import Derived.WalkKit
import Derived.Below
import Derived.Deep.Draws
import Derived.Lib.Hide
import Derived.Laws.OwnMore
import Derived.Maps.AppendAt
import Derived.Test.YthlinmkengoliaaGreatDoorZA
import Derived.Test.YthlinmkengoliaaGreatDoorZBr
import Derived.Lib.OthersKept
set_option linter.unusedVariables false
namespace Go.Ms
open Go.RowKit Go.Lib
abbrev Cl := Bool × Int × ByteArray
abbrev Ty := Int × Bool
def clV (c : Cl) : List Value := [.bool c.1, .int .i64 c.2.1, .string c.2.2]
def rowV (l : List Cl) : List Value := l.flatMap clV
def intV (l : List Int) : List Value := l.map (Value.int .i64)
def Lay (w : World) (B : Nat) (A : Option Addr) (xs : List Value) : Prop := ∀ j u, xs[j]? = some u → ∃ g o, A = some ⟨g, o, none⟩ ∧ g < B ∧ w.cell? ⟨g, o + j, none⟩ = some u
namespace Lay
variable {w w' : World} {B B' : Nat} {A : Option Addr} {xs : List Value}
theorem keep (h : Lay w B A xs) (hk : ∀ p : Addr, p.block < B → w'.cell? p = w.cell? p) : Lay w' B A xs := fun j u hu => by
 obtain ⟨g, o, e, hb, hc⟩ := h j u hu; exact ⟨g, o, e, hb, (hk _ hb).trans hc⟩
theorem more (h : Lay w B A xs) (hB : B ≤ B') : Lay w B' A xs := fun j u hu => by
 obtain ⟨g, o, e, hb, hc⟩ := h j u hu; exact ⟨g, o, e, by omega, hc⟩
theorem below (h : Lay w B A xs) (hb : Below B w w') : Lay w' B A xs := h.keep fun _ hp => hb.cell hp
theorem some_ (h : Lay w B A xs) (hx : 0 < xs.length) : ∃ g o, A = some ⟨g, o, none⟩ ∧ g < B ∧ ∀ j u, xs[j]? = some u → w.cell? ⟨g, o + j, none⟩ = some u := by
 obtain ⟨g, o, e, hb, _⟩ := h 0 _ (List.getElem?_eq_getElem hx); refine ⟨g, o, e, hb, fun j u hu => ?_⟩; obtain ⟨g', o', e', _, hc⟩ := h j u hu; rw [e] at e'
 cases e'
 exact hc
theorem of_own {base size n c : Nat} {e : TypeId} (h : w.ownsRow base e size (.slice A n c) n xs) (hB : w.heap.size ≤ B) : Lay w B A xs := fun j u hu => by
 have hj : j < xs.length := (List.getElem?_eq_some_iff.1 hu).1
 rcases h.2 with ⟨_, h0⟩ | ⟨g, cap, cur, hv, _, hg, _⟩
 · have := h.1; rw [h0] at this; omega
 · have hA : A = some ⟨g, 0, none⟩ := by injection hv
   subst hA; have hlt : g < w.heap.size := (Array.getElem?_eq_some_iff.1 hg).1; refine ⟨_, _, rfl, by omega, ?_⟩; have := h.cells (g := g) rfl j u hu; rw [Addr.add_lit] at this; exact this
theorem take (h : Lay w B A xs) (n : Nat) : Lay w B A (xs.take n) := fun j u hu => by
 refine h j u ?_; rw [List.getElem?_take] at hu
 split at hu
 · exact hu
 · cases hu
end Lay
theorem intV_at (l : List Int) (i : Nat) (p : Int) (h : l[i]? = some p) : (intV l)[i]? = some (.int .i64 p) := by simp [intV, h]
theorem Lay.num {w : World} {B : Nat} {A : Option Addr} {l : List Int} {i : Nat} {p : Int} (h : Lay w B A (intV l)) (hi : l[i]? = some p) :
    ∃ g o, A = some ⟨g, o, none⟩ ∧ g < B ∧ w.cell? ⟨g, o + i, none⟩ = some (.int .i64 p) := by
 have h1 := intV_at l i p hi; have hl : i < l.length := (List.getElem?_eq_some_iff.1 hi).1; obtain ⟨g, o, e, hb, hc⟩ := h.some_ (by simp [intV]; omega); exact ⟨g, o, e, hb, hc _ _ h1⟩
structure Cols (w : World) (B : Nat) (A : Option Addr) (ts : List Ty) (xs : List Value) : Prop where
  len : xs.length = ts.length * 7
  lay : Lay w B A xs
  kind : ∀ (i : Nat) t, ts[i]? = some t → xs[i * 7 + 2]? = some (.int .i64 t.1) ∧ xs[i * 7 + 3]? = some (.bool t.2)
theorem Cols.below {w w' : World} {B : Nat} {A : Option Addr} {ts : List Ty} {xs : List Value} (h : Cols w B A ts xs) (hb : Below B w w') : Cols w' B A ts xs := ⟨h.len, h.lay.below hb, h.kind⟩
theorem Cols.more {w : World} {B B' : Nat} {A : Option Addr} {ts : List Ty} {xs : List Value} (h : Cols w B A ts xs) (hB : B ≤ B') : Cols w B' A ts xs := ⟨h.len, h.lay.more hB, h.kind⟩
theorem Cols.ty {w : World} {B : Nat} {A : Option Addr} {ts : List Ty} {xs : List Value} {i : Nat} {t : Ty} (h : Cols w B A ts xs) (hi : ts[i]? = some t) :
    ∃ g o, A = some ⟨g, o, none⟩ ∧ g < B ∧ w.cell? ⟨g, o + i * 7 + 2, none⟩ = some (.int .i64 t.1) ∧ w.cell? ⟨g, o + i * 7 + 2 + 1, none⟩ = some (.bool t.2) := by
 obtain ⟨h1, h2⟩ := h.kind i t hi; have hl : i < ts.length := (List.getElem?_eq_some_iff.1 hi).1; obtain ⟨g, o, e, hb, hc⟩ := h.lay.some_ (by rw [h.len]; omega); exact ⟨g, o, e, hb, hc _ _ h1, hc _ _ h2⟩
end Go.Ms
namespace Go.Ms
def cCheck (t : Ty) (c : Cl) : Int := kCheck t.1 t.2 c.1 c.2.1 c.2.2.data.toList
def unCl (x : Bool × Int × Bs) : Cl := (x.1, x.2.1, ⟨x.2.2.toArray⟩)
end Go.Ms
namespace Go.Ms
open Go.RowKit Go.Lib
theorem Lay.src {P : Program} {w : World} {B size m c : Nat} {A : Option Addr} {xs : List Value} {tx e : TypeId} (h : Lay w B A xs) (hk : P.underlying tx = some (.slice e)) (hl : xs.length = m * size) (hs : 0 < size) (hA : A = none → m = 0) (h1 : ∀ u ∈ xs, u.oneCell' = true) : Src P size tx (.slice A m c) m xs w := by
 rcases A with _ | a
 · have h0 := hA rfl; subst h0; have hx : xs = [] := List.eq_nil_of_length_eq_zero (by simpa using hl); subst hx; exact Src.ofNil w hk c
 · refine Src.ofSlice w hk a m c xs hl (fun j u hu => ?_) h1; obtain ⟨g, o, e, _, hc⟩ := h j u hu
   cases e
   rw [Addr.add_lit]; exact hc
theorem Lay.none_len {w : World} {B : Nat} {xs : List Value} (h : Lay w B none xs) : xs = [] := by
 rcases xs with _ | ⟨x, t⟩
 · rfl
 · obtain ⟨_, _, e, _⟩ := h 0 x rfl
   cases e
theorem run_append_lay {P : Program} (w : World) (base : Nat) (t ty e : TypeId) (i : TypeInfo) (z : Value) (size bytes : Nat) (ht : P.underlying t = some (.slice e)) (hi : P.info? e = some i) (hz : i.zero = some z)
    (hsize : i.size = size) (hby : i.bytes = bytes) (hzs : z.cells.size = size) (hsz : 0 < size)
    (v : Value) (n : Nat) (xs : List Value) (hown : w.ownsRow base e size v n xs) (B : Nat) (A : Option Addr) (m c : Nat) (news : List Value) (hl : news.length = m * size) (hnews : Lay w B A news) (h1 : ∀ u ∈ news, u.oneCell' = true)
    (h63 : n + m ≤ maxLen) (hbytes : (n + m) * bytes ≤ 140737488355328) (hbase : base ≤ w.heap.size) :
    ∃ v' w', (Builtin.append_ #[t, t] ty #[v, .slice A m c]).run P w = .ok v' w' ∧ w'.ownsRow base e size v' (n + m) (xs ++ news) ∧ w.grownBy w' v.ownBlock := by
 have hA : A = none → m = 0 := fun h => by
  subst h; have := hnews.none_len; subst this
  rcases Nat.eq_zero_or_pos m with h0 | h0
  · exact h0
  · have := Nat.mul_pos h0 hsz; simp at hl; omega
 exact run_append_own_src (P := P) w base t t ty e i z size bytes ht hi hz hsize hby hzs hsz v n xs hown (.slice A m c) m news (hnews.src ht hl hsz hA h1) h63 hbytes hbase
theorem wpList_append_lay {P : Program} {w : World} {ops : Array Oper} {rest : List Oper} {o : Oper} {a : Act} {Q : Exit → Act → World → Prop} (hgd : o.guard = none) (s x : Operand) (t : TypeId)
    (ho : o.op = .call { callee := .builtin .append, args := #[s, x], argTypes := #[t, t] })
    (base : Nat) (e : TypeId) (i : TypeInfo) (z : Value) (size bytes : Nat) (ht : P.underlying t = some (.slice e)) (hi : P.info? e = some i) (hz : i.zero = some z)
    (hsize : i.size = size) (hby : i.bytes = bytes) (hzs : z.cells.size = size) (hsz : 0 < size)
    (v : Value) (n : Nat) (xs : List Value) (hs : a.eval s = v) (hown : w.ownsRow base e size v n xs) (B : Nat) (A : Option Addr) (m c : Nat) (news : List Value) (hx : a.eval x = .slice A m c) (hl : news.length = m * size) (hnews : Lay w B A news) (h1 : ∀ u ∈ news, u.oneCell' = true)
    (h63 : n + m ≤ maxLen) (hbytes : (n + m) * bytes ≤ 140737488355328) (hbase : base ≤ w.heap.size)
    (h : ∀ v' w', w'.ownsRow base e size v' (n + m) (xs ++ news) → w.grownBy w' v.ownBlock → wpList P ops Q rest (a.put o.dst v') w') : wpList P ops Q (o :: rest) a w := by
 refine wpList_plain hgd fun K' hK' => ?_
 obtain ⟨v', w', hr, h2, h3⟩ := run_append_lay (P := P) w base t o.type e i z size bytes ht hi hz hsize hby hzs hsz v n xs hown B A m c news hl hnews h1 h63 hbytes hbase; unfold Oper.wp execOp; simp only [ho, resolve, invoke, builtin, Sem.run_bind, Sem.run_pure, Result.andThen_ok, List.map_toArray, List.map_cons, List.map_nil, hs, hx, hr]; exact hK' _ _ (h v' w' h2 h3)
theorem step_append_lay {P : Program} {w : World} {ops : Array Oper} {o : Oper} {a : Act} {K : Act → World → Prop} {Q : Exit → Act → World → Prop} {E : Prop} (hgd : o.guard = none) (s x : Operand) (t : TypeId)
    (ho : o.op = .call { callee := .builtin .append, args := #[s, x], argTypes := #[t, t] })
    (base : Nat) (e : TypeId) (i : TypeInfo) (z : Value) (size bytes : Nat) (ht : P.underlying t = some (.slice e)) (hi : P.info? e = some i) (hz : i.zero = some z)
    (hsize : i.size = size) (hby : i.bytes = bytes) (hzs : z.cells.size = size) (hsz : 0 < size)
    (v : Value) (n : Nat) (xs : List Value) (hs : a.eval s = v) (hown : w.ownsRow base e size v n xs) (B : Nat) (A : Option Addr) (m c : Nat) (news : List Value) (hx : a.eval x = .slice A m c) (hl : news.length = m * size) (hnews : Lay w B A news) (h1 : ∀ u ∈ news, u.oneCell' = true)
    (h63 : n + m ≤ maxLen) (hbytes : (n + m) * bytes ≤ 140737488355328) (hbase : base ≤ w.heap.size)
    (h : ∀ v' w', w'.ownsRow base e size v' (n + m) (xs ++ news) → w.grownBy w' v.ownBlock → K (a.put o.dst v') w') :
    if Region.wanted o (yielded ops a.tmps) = true then Oper.wp P o a w K Q else E := by
 have hw : Region.wanted o (yielded ops a.tmps) = true := by simp [Region.wanted, hgd]
 rw [if_pos hw]; obtain ⟨v', w', hr, h2, h3⟩ := run_append_lay (P := P) w base t o.type e i z size bytes ht hi hz hsize hby hzs hsz v n xs hown B A m c news hl hnews h1 h63 hbytes hbase; unfold Oper.wp execOp; simp only [ho, resolve, invoke, builtin, Sem.run_bind, Sem.run_pure, Result.andThen_ok, List.map_toArray, List.map_cons, List.map_nil, hs, hx, hr]; exact h v' w' h2 h3
theorem lay_new (w : World) (vs : List Value) (e : TypeId) : Lay (w.alloc (.cells vs.toArray e)) (w.alloc (.cells vs.toArray e)).heap.size (some ⟨w.heap.size, 0, none⟩) vs := fun j u hu => by
 refine ⟨_, _, rfl, by simp, ?_⟩; rw [Lib.cell_of_heap (heap_alloc_new w _)]
 simpa using hu
theorem rowV_one (l : List Cl) : ∀ u ∈ rowV l, u.oneCell' = true := by
 intro u hu
 obtain ⟨c, _, h⟩ := List.mem_flatMap.1 hu; simp only [clV, List.mem_cons, List.not_mem_nil, or_false] at h
 rcases h with rfl | rfl | rfl <;> rfl
theorem intV_one (l : List Int) : ∀ u ∈ intV l, u.oneCell' = true := by
 intro u hu
 obtain ⟨_, _, rfl⟩ := List.mem_map.1 hu; rfl
def OwnC (w : World) (B : Nat) (e : TypeId) (v : Value) (l : List Cl) : Prop := w.ownsRow B e 3 v l.length (rowV l)
def OwnI (w : World) (B : Nat) (e : TypeId) (v : Value) (l : List Int) : Prop := w.ownsRow B e 1 v l.length (intV l)
theorem yown_slice {w : World} {base size n : Nat} {e : TypeId} {v : Value} {xs : List Value} (h : w.ownsRow base e size v n xs) : ∃ A c, v = .slice A n c ∧ n ≤ c ∧ c ≤ maxLen := by
 rcases h.2 with ⟨rfl, rfl⟩ | ⟨g, cap, cur, rfl, _, _, h1, h2, _⟩
 · exact ⟨_, _, rfl, Nat.le_refl _, by unfold maxLen; omega⟩
 · exact ⟨_, _, rfl, h1, h2⟩
theorem own_below {w w' : World} {base size n : Nat} {e : TypeId} {v : Value} {xs : List Value} (h : w.ownsRow base e size v n xs) (hb : Below w.heap.size w w') : w'.ownsRow base e size v n xs :=
  World.ownsRow.kept h (row := none) ⟨hb.os, hb.tape, hb.output, hb.size, fun k hk _ => hb.block k hk⟩ (by cases hv : v.ownBlock <;> simp)
theorem own_grown {w0 w w' : World} {B base size n : Nat} {e : TypeId} {v : Value} {xs : List Value} (h : w.ownsRow base e size v n xs) (hb : Below B w0 w) (hB : B ≤ w.heap.size) (hBb : B ≤ base) (hg : w.grownBy w' v.ownBlock) : Below B w0 w' :=
  hb.grown hg hB (fun k hk => Nat.le_trans hBb (World.ownsRow.lt h k hk).1)
theorem own_more {w : World} {base base' size n : Nat} {e : TypeId} {v : Value} {xs : List Value} (h : w.ownsRow base e size v n xs) (hb : base' ≤ base) : w.ownsRow base' e size v n xs := by
 refine ⟨h.1, h.2.imp id ?_⟩; rintro ⟨g, cap, cur, h1, h2, h3⟩; exact ⟨g, cap, cur, h1, Nat.le_trans hb h2, h3⟩
theorem OwnC.lay {w : World} {B : Nat} {e : TypeId} {A : Option Addr} {n c : Nat} {l : List Cl} (h : OwnC w B e (.slice A n c) l) : n = l.length ∧ Lay w w.heap.size A (rowV l) := by
 unfold OwnC at h
 have hn : n = l.length := by
  obtain ⟨A', c', he, _⟩ := yown_slice h
  injection he
 subst hn; exact ⟨rfl, Lay.of_own h (Nat.le_refl _)⟩
theorem OwnI.lay {w : World} {B : Nat} {e : TypeId} {A : Option Addr} {n c : Nat} {l : List Int} (h : OwnI w B e (.slice A n c) l) : n = l.length ∧ Lay w w.heap.size A (intV l) := by
 unfold OwnI at h
 have hn : n = l.length := by
  obtain ⟨A', c', he, _⟩ := yown_slice h
  injection he
 subst hn; exact ⟨rfl, Lay.of_own h (Nat.le_refl _)⟩
end Go.Ms
