/- Rows of bytes of one's own: appended to from a string or a row, read as a string. Rows of bytes of one's own: appended to, and where they lie then. strings.Builder beside other rows of bytes: the methods, and which blocks stand. -/
import Derived.WalkKit
import Derived.Below
import Derived.Deep.Draws
import Derived.Lib.Hide
import Derived.Deep.AppendSrc
import Derived.Laws.BytesArg
import Derived.OwnWalk
import Derived.Deep.RegionLaw
import Derived.Test.YthlinmkengoliaaGreatDoorZB
set_option linter.unusedVariables false
namespace Go.Ms
open Go.RowKit Go.Lib
theorem run_append_own_src {P : Program} (w : World) (base : Nat) (t tx ty e : TypeId) (i : TypeInfo) (z : Value) (size bytes : Nat) (ht : P.underlying t = some (.slice e)) (hi : P.info? e = some i) (hz : i.zero = some z)
    (hsize : i.size = size) (hby : i.bytes = bytes) (hzs : z.cells.size = size) (hsz : 0 < size)
    (v : Value) (n : Nat) (xs : List Value) (hown : w.ownsRow base e size v n xs) (x : Value) (m : Nat) (news : List Value) (hs : Src P size tx x m news w)
    (h63 : n + m ≤ maxLen) (hbytes : (n + m) * bytes ≤ 140737488355328) (hbase : base ≤ w.heap.size) :
    ∃ v' w', (Builtin.append_ #[t, tx] ty #[v, x]).run P w = .ok v' w' ∧ w'.ownsRow base e size v' (n + m) (xs ++ news) ∧ w.grownBy w' v.ownBlock := by
 subst hsize
 subst hby
 have hl := hs.newsLen
 have hsmall : n + m ≤ 9223372036854775807 := by simp only [maxLen] at h63; omega
 have hlen : (xs ++ news).length = (n + m) * i.size := by rw [List.length_append, hown.1, hl, Nat.add_mul]
 have grown : ∀ (old : Nat), old < n + m → ∀ (row : Option Nat),
     (w.drew.alloc (.cells ((xs ++ news).toArray ++ Builtin.zeroCells z.cells (grownCap w (n + m) old e - (n + m))) e)).ownsRow base e i.size
       (.slice (some ⟨w.heap.size, 0, none⟩) (n + m) (grownCap w (n + m) old e)) (n + m) (xs ++ news) ∧
     w.grownBy (w.drew.alloc (.cells ((xs ++ news).toArray ++ Builtin.zeroCells z.cells (grownCap w (n + m) old e - (n + m))) e)) row := by
   intro old ho row
   have hge := grownCap_ge w (n + m) old e; have hcm : grownCap w (n + m) old e ≤ maxLen := grownCap_le_maxLen w (n + m) old e h63; refine ⟨⟨hlen, .inr ⟨w.heap.size, _, _, rfl, hbase, heap_alloc_new w.drew _, hge, hcm, ?_, ?_⟩⟩, ⟨rfl, rfl, rfl, by simp, fun k hk _ => (World.grownBy_alloc w.drew _ none).block k hk (by simp)⟩⟩
   · simp only [Array.size_append, List.size_toArray, size_zeroCells, hzs, hlen, ← Nat.add_mul]
     congr 1
     omega
   · simp only [Array.toList_append]; rw [← hlen]; exact List.take_left
 rcases hown.2 with ⟨rfl, rfl⟩ | ⟨g, cap, cur, rfl, hbg, hg, hnc, hcm, hcs, htake⟩
 · have hx : xs = [] := List.eq_nil_of_length_eq_zero (by simpa using hown.1); subst hx
   by_cases hm : m = 0
   · subst hm; have hn : news = [] := List.eq_nil_of_length_eq_zero (by simpa using hl); subst hn; refine ⟨.slice none 0 0, w, ?_, World.ownsRow_nil w base e i.size, ⟨rfl, rfl, rfl, Nat.le_refl _, fun _ _ _ => rfl⟩⟩; have hc := hs.cells
     rcases hs.kind with ⟨e', hk⟩ | hk <;>
       simp [Builtin.append_, run_underlying ht, run_underlying hk, sizeOf, typeInfo, hi, hs.len, hc]
   · have hr := run_append_grow_src (P := P) w t tx ty e i z ht hi hz none 0 0 [] (run_firstCells_none w.drew i.size 0 0 0) x m news hs (by omega) (by omega) (growslice_fits (by omega) (by simpa using hbytes)); have hgr := grown 0 (by omega) (Value.ownBlock (.slice none 0 0)); simp only [Nat.zero_add, List.nil_append] at hgr hr ⊢; exact ⟨_, _, hr, hgr.1, hgr.2⟩
 · by_cases hroom : n + m ≤ cap
   · have hfit : n * i.size + news.length ≤ cur.size := by rw [hl, hcs, ← Nat.add_mul]; exact Nat.mul_le_mul_right _ hroom
     have hst := run_storeCells_at P g (n * i.size) e news 0 cur w hg (by simpa using hfit) hs.one; simp only [Nat.add_zero] at hst
     have hr : (Builtin.append_ #[t, tx] ty #[.slice (some ⟨g, 0, none⟩) n cap, x]).run P w = .ok (.slice (some ⟨g, 0, none⟩) (n + m) cap) (w.setRow g (cur.toList.take (n * i.size) ++ news ++ cur.toList.drop (n * i.size + news.length)).toArray) := by
      rcases hs.kind with ⟨e', hk⟩ | hk <;>
        simp [Builtin.append_, run_underlying ht, run_underlying hk, sizeOf, typeInfo, hi, hs.len, hroom, hs.cells, Addr.add_lit, hst]
     refine ⟨_, _, hr, ⟨hlen, .inr ⟨g, cap, _, rfl, hbg, setRow_heap w g cur _ e _ hg, hroom, hcm, ?_, ?_⟩⟩, ⟨rfl, rfl, rfl, by simp, fun k _ hk => setRow_other w g k _ (fun e => hk (by simp [Value.ownBlock, e]))⟩⟩
     · simp only [List.size_toArray, List.length_append, List.length_take, List.length_drop, Array.length_toList]; omega
     · rw [htake, ← hlen]; exact List.take_left
   · have holds : ∀ j u, xs[j]? = some u → w.drew.cell? ((⟨g, 0, none⟩ : Addr).add j) = some u := fun j u hu => by simpa using hown.cells (g := g) rfl j u hu
     have hr := run_append_grow_src (P := P) w t tx ty e i z ht hi hz (some ⟨g, 0, none⟩) n cap xs (run_firstCells_some (P := P) w.drew i.size n ⟨g, 0, none⟩ n cap xs hown.1 holds) x m news hs (by omega) (by omega) (growslice_fits (by omega) hbytes); have hgr := grown cap (by omega) (Value.ownBlock (.slice (some ⟨g, 0, none⟩) n cap)); exact ⟨_, _, hr, hgr.1, hgr.2⟩
def OwnB (w : World) (base : Nat) (e : TypeId) (v : Value) (l : List UInt8) : Prop := w.ownsRow base e 1 v l.length (l.map fun b => Value.int .u8 b.toNat)
theorem OwnB.nil (w : World) (base : Nat) (e : TypeId) : OwnB w base e (.slice none 0 0) [] := World.ownsRow_nil w base e 1
theorem OwnB.kept {w w' : World} {base : Nat} {e : TypeId} {v : Value} {l : List UInt8} (h : OwnB w base e v l) (hb : Below w.heap.size w w') : OwnB w' base e v l :=
  World.ownsRow.kept h (row := none) ⟨hb.os, hb.tape, hb.output, hb.size, fun k hk _ => hb.block k hk⟩ (by cases hv : v.ownBlock <;> simp)
theorem OwnB.drewN {w : World} {base : Nat} {e : TypeId} {v : Value} {l : List UInt8} (h : OwnB w base e v l) (n : Nat) : OwnB (w.drewN n) base e v l := h
theorem OwnB.alloc {w : World} {base : Nat} {e : TypeId} {v : Value} {l : List UInt8} (h : OwnB w base e v l) (o : Obj) : OwnB (w.alloc o) base e v l := World.ownsRow.alloc h o
theorem OwnB.below {w0 w w' : World} {e : TypeId} {v : Value} {l : List UInt8} {B : Nat} (h : OwnB w B e v l) (hb : Below B w0 w) (hB : B ≤ w.heap.size) (hg : w.grownBy w' v.ownBlock) : Below B w0 w' := by
 exact hb.grown hg hB (fun k hk => (World.ownsRow.lt h k hk).1)
theorem append_bound {n m : Nat} (h : n + m ≤ 140737488355328) : n + m ≤ maxLen := by unfold maxLen; omega
theorem run_append_str {P : Program} (w : World) (base : Nat) (t tx ty e : TypeId) (i : TypeInfo) (z : Value) (ht : P.underlying t = some (.slice e)) (htx : P.underlying tx = some .string) (hi : P.info? e = some i) (hz : i.zero = some z)
    (hsize : i.size = 1) (hby : i.bytes = 1) (hzs : z.cells.size = 1) (v : Value) (l : List UInt8) (hown : OwnB w base e v l) (s : ByteArray) (hb : l.length + s.size ≤ 140737488355328) (hbase : base ≤ w.heap.size) :
    ∃ v' w', (Builtin.append_ #[t, tx] ty #[v, .string s]).run P w = .ok v' w' ∧ OwnB w' base e v' (l ++ s.data.toList) ∧ w.grownBy w' v.ownBlock := by
 have hl : s.data.toList.length = s.size := by simp
 obtain ⟨v', w', h1, h2, h3⟩ := run_append_own_src (P := P) w base t tx ty e i z 1 1 ht hi hz hsize hby hzs (by omega) v l.length _ hown (.string s) s.size _ (Src.ofString w htx s) (append_bound hb) (by omega) hbase; refine ⟨v', w', h1, ?_, h3⟩; unfold OwnB; rw [List.length_append, List.map_append, hl]; exact h2
theorem wpList_append_str {P : Program} {w : World} {ops : Array Oper} {rest : List Oper} {o : Oper} {a : Act} {Q : Exit → Act → World → Prop} (hgd : o.guard = none) (s x : Operand) (t tx : TypeId)
    (ho : o.op = .call { callee := .builtin .append, args := #[s, x], argTypes := #[t, tx] })
    (base : Nat) (e : TypeId) (i : TypeInfo) (z : Value) (ht : P.underlying t = some (.slice e)) (htx : P.underlying tx = some .string) (hi : P.info? e = some i) (hz : i.zero = some z)
    (hsize : i.size = 1) (hby : i.bytes = 1) (hzs : z.cells.size = 1) (v : Value) (l : List UInt8) (hs : a.eval s = v) (hown : OwnB w base e v l) (str : ByteArray) (hx : a.eval x = .string str)
    (hb : l.length + str.size ≤ 140737488355328) (hbase : base ≤ w.heap.size)
    (h : ∀ v' w', OwnB w' base e v' (l ++ str.data.toList) → w.grownBy w' v.ownBlock → wpList P ops Q rest (a.put o.dst v') w') : wpList P ops Q (o :: rest) a w := by
 refine wpList_plain hgd fun K' hK' => ?_
 obtain ⟨v', w', hr, h2, h3⟩ := run_append_str (P := P) w base t tx o.type e i z ht htx hi hz hsize hby hzs v l hown str hb hbase; unfold Oper.wp execOp; simp only [ho, resolve, invoke, builtin, Sem.run_bind, Sem.run_pure, Result.andThen_ok, List.map_toArray, List.map_cons, List.map_nil, hs, hx, hr]; exact hK' _ _ (h v' w' h2 h3)
theorem wpList_append_new {P : Program} {w : World} {ops : Array Oper} {rest : List Oper} {o : Oper} {a : Act} {Q : Exit → Act → World → Prop} (hgd : o.guard = none) (s x : Operand) (t : TypeId)
    (ho : o.op = .call { callee := .builtin .append, args := #[s, x], argTypes := #[t, t] })
    (base : Nat) (e : TypeId) (i : TypeInfo) (z : Value) (ht : P.underlying t = some (.slice e)) (hi : P.info? e = some i) (hz : i.zero = some z)
    (hsize : i.size = 1) (hby : i.bytes = 1) (hzs : z.cells.size = 1) (v : Value) (l : List UInt8) (hs : a.eval s = v) (hown : OwnB w base e v l) (ad : Addr) (m c : Nat) (hx : a.eval x = .slice (some ad) m c) (ns : List Int)
    (hm : ns.length = m) (hcell : ∀ j u, (ns.map (Value.int .u8))[j]? = some u → w.cell? (ad.add j) = some u) (hn : ∀ x ∈ ns, 0 ≤ x ∧ x < 256)
    (hb : l.length + m ≤ 140737488355328) (hbase : base ≤ w.heap.size)
    (h : ∀ v' w', OwnB w' base e v' (l ++ ns.map fun x => x.toNat.toUInt8) → w.grownBy w' v.ownBlock → wpList P ops Q rest (a.put o.dst v') w') : wpList P ops Q (o :: rest) a w := by
 subst hm
 refine wpList_plain hgd fun K' hK' => ?_
 have hone : ∀ u ∈ ns.map (Value.int .u8), u.oneCell' = true := by
  intro u hu
  obtain ⟨_, _, rfl⟩ := List.mem_map.1 hu; rfl
 obtain ⟨v', w', hr, h2, h3⟩ := run_append_own_src (P := P) w base t t o.type e i z 1 1 ht hi hz hsize hby hzs (by omega) v l.length _ hown (.slice (some ad) ns.length c) ns.length (ns.map (Value.int .u8)) (Src.ofSlice w ht ad ns.length c _ (by simp) hcell hone) (append_bound hb) (by omega) hbase
 have he : (ns.map fun x => x.toNat.toUInt8).map (fun b => Value.int .u8 b.toNat) = ns.map (Value.int .u8) := by
  rw [List.map_map]
  apply List.map_congr_left
  intro x hx
  have := hn x hx
  have h2 : (x.toNat.toUInt8).toNat = x.toNat := by simp [Nat.toUInt8]; omega
  simp only [Function.comp, h2]; rw [show ((x.toNat : Nat) : Int) = x by omega]
 unfold Oper.wp execOp; simp only [ho, resolve, invoke, builtin, Sem.run_bind, Sem.run_pure, Result.andThen_ok, List.map_toArray, List.map_cons, List.map_nil, hs, hx, hr]; refine hK' _ _ (h v' w' ?_ h3); unfold OwnB; rw [List.length_append, List.map_append, he, List.length_map]; exact h2
theorem step_append_new {P : Program} {w : World} {ops : Array Oper} {o : Oper} {a : Act} {K : Act → World → Prop} {Q : Exit → Act → World → Prop} {E : Prop} (hgd : o.guard = none) (s x : Operand) (t : TypeId)
    (ho : o.op = .call { callee := .builtin .append, args := #[s, x], argTypes := #[t, t] })
    (base : Nat) (e : TypeId) (i : TypeInfo) (z : Value) (ht : P.underlying t = some (.slice e)) (hi : P.info? e = some i) (hz : i.zero = some z)
    (hsize : i.size = 1) (hby : i.bytes = 1) (hzs : z.cells.size = 1) (v : Value) (l : List UInt8) (hs : a.eval s = v) (hown : OwnB w base e v l) (ad : Addr) (m c : Nat) (hx : a.eval x = .slice (some ad) m c) (ns : List Int)
    (hm : ns.length = m) (hcell : ∀ j u, (ns.map (Value.int .u8))[j]? = some u → w.cell? (ad.add j) = some u) (hn : ∀ x ∈ ns, 0 ≤ x ∧ x < 256)
    (hb : l.length + m ≤ 140737488355328) (hbase : base ≤ w.heap.size)
    (h : ∀ v' w', OwnB w' base e v' (l ++ ns.map fun x => x.toNat.toUInt8) → w.grownBy w' v.ownBlock → K (a.put o.dst v') w') :
    if Region.wanted o (yielded ops a.tmps) = true then Oper.wp P o a w K Q else E := by
 subst hm
 have hw : Region.wanted o (yielded ops a.tmps) = true := by simp [Region.wanted, hgd]
 rw [if_pos hw]
 have hone : ∀ u ∈ ns.map (Value.int .u8), u.oneCell' = true := by
  intro u hu
  obtain ⟨_, _, rfl⟩ := List.mem_map.1 hu; rfl
 obtain ⟨v', w', hr, h2, h3⟩ := run_append_own_src (P := P) w base t t o.type e i z 1 1 ht hi hz hsize hby hzs (by omega) v l.length _ hown (.slice (some ad) ns.length c) ns.length (ns.map (Value.int .u8)) (Src.ofSlice w ht ad ns.length c _ (by simp) hcell hone) (append_bound hb) (by omega) hbase
 have he : (ns.map fun x => x.toNat.toUInt8).map (fun b => Value.int .u8 b.toNat) = ns.map (Value.int .u8) := by
  rw [List.map_map]
  apply List.map_congr_left
  intro x hx
  have := hn x hx
  have h2 : (x.toNat.toUInt8).toNat = x.toNat := by simp [Nat.toUInt8]; omega
  simp only [Function.comp, h2]; rw [show ((x.toNat : Nat) : Int) = x by omega]
 unfold Oper.wp execOp; simp only [ho, resolve, invoke, builtin, Sem.run_bind, Sem.run_pure, Result.andThen_ok, List.map_toArray, List.map_cons, List.map_nil, hs, hx, hr]; refine h v' w' ?_ h3; unfold OwnB; rw [List.length_append, List.map_append, he, List.length_map]; exact h2
theorem run_ownB_string {P : Program} {w : World} {base : Nat} {src dst e : TypeId} (hs : P.underlying src = some (.slice e)) (he : P.underlying e = some (.int .u8)) (hd : P.underlying dst = some .string) {v : Value} {l : List UInt8} (hown : OwnB w base e v l) :
    (convert src dst v).run P w = .ok (.string ⟨l.toArray⟩) w := by
 have hown' : w.ownsRow base e 1 v l.length (l.map fun b => Value.int .u8 b.toNat) := hown
 rcases hown'.2 with ⟨rfl, h0⟩ | ⟨g, cap, cur, rfl, hb, hg, hc⟩
 · have : l = [] := List.eq_nil_of_length_eq_zero h0; subst this; exact run_convert_bytes_nil w src e hs he 0 0 dst hd
 · have hcell := hown'.cells (g := g) rfl
   have := run_convert_bytes_arg (P := P) w src e hs he g 0 l.length cap (l.map fun b => (b.toNat : Int)) (by simp) (fun i hi => by
    have h1 := hcell i (.int .u8 (l[i]).toNat) (by simp [hi])
    have hadd : (⟨g, 0, none⟩ : Addr).add i = ⟨g, 0 + i, none⟩ := by unfold Addr.add; split <;> simp_all
    rw [hadd] at h1; rw [h1]
    simp [List.getD_eq_getElem?_getD, hi]) dst hd
   rw [this]
   congr 2
   have : (strOfNums (l.map fun b => (b.toNat : Int))).data.toList = l := by
    rw [strOfNums_data, List.map_map]
    have : ((fun n : Int => UInt8.ofNat n.toNat) ∘ fun b : UInt8 => ((b.toNat : Nat) : Int)) = id := by funext b; simp
    rw [this, List.map_id]
   cases hX : strOfNums (l.map fun b => (b.toNat : Int)) with
   | mk d => rw [hX] at this; simp only at this; subst this; simp
end Go.Ms
namespace Go.Ms
open Go.RowKit Go.Lib
theorem run_append_own_at {P : Program} (w : World) (base : Nat) (t tx ty e : TypeId) (i : TypeInfo) (z : Value) (size bytes : Nat) (ht : P.underlying t = some (.slice e)) (hi : P.info? e = some i) (hz : i.zero = some z)
    (hsize : i.size = size) (hby : i.bytes = bytes) (hzs : z.cells.size = size) (hsz : 0 < size)
    (v : Value) (n : Nat) (xs : List Value) (hown : w.ownsRow base e size v n xs) (x : Value) (m : Nat) (news : List Value) (hs : Src P size tx x m news w)
    (h63 : n + m ≤ maxLen) (hbytes : (n + m) * bytes ≤ 140737488355328) (hbase : base ≤ w.heap.size) :
    ∃ v' w', (Builtin.append_ #[t, tx] ty #[v, x]).run P w = .ok v' w' ∧ w'.ownsRow base e size v' (n + m) (xs ++ news) ∧ w.grownBy w' v.ownBlock ∧ (v'.ownBlock = v.ownBlock ∨ v'.ownBlock = some w.heap.size) := by
 subst hsize
 subst hby
 have hl := hs.newsLen
 have hsmall : n + m ≤ 9223372036854775807 := by simp only [maxLen] at h63; omega
 have hlen : (xs ++ news).length = (n + m) * i.size := by rw [List.length_append, hown.1, hl, Nat.add_mul]
 have grown : ∀ (old : Nat), old < n + m → ∀ (row : Option Nat),
     (w.drew.alloc (.cells ((xs ++ news).toArray ++ Builtin.zeroCells z.cells (grownCap w (n + m) old e - (n + m))) e)).ownsRow base e i.size
       (.slice (some ⟨w.heap.size, 0, none⟩) (n + m) (grownCap w (n + m) old e)) (n + m) (xs ++ news) ∧
     w.grownBy (w.drew.alloc (.cells ((xs ++ news).toArray ++ Builtin.zeroCells z.cells (grownCap w (n + m) old e - (n + m))) e)) row := by
   intro old ho row
   have hge := grownCap_ge w (n + m) old e; have hcm : grownCap w (n + m) old e ≤ maxLen := grownCap_le_maxLen w (n + m) old e h63; refine ⟨⟨hlen, .inr ⟨w.heap.size, _, _, rfl, hbase, heap_alloc_new w.drew _, hge, hcm, ?_, ?_⟩⟩, ⟨rfl, rfl, rfl, by simp, fun k hk _ => (World.grownBy_alloc w.drew _ none).block k hk (by simp)⟩⟩
   · simp only [Array.size_append, List.size_toArray, size_zeroCells, hzs, hlen, ← Nat.add_mul]
     congr 1
     omega
   · simp only [Array.toList_append]; rw [← hlen]; exact List.take_left
 rcases hown.2 with ⟨rfl, rfl⟩ | ⟨g, cap, cur, rfl, hbg, hg, hnc, hcm, hcs, htake⟩
 · have hx : xs = [] := List.eq_nil_of_length_eq_zero (by simpa using hown.1); subst hx
   by_cases hm : m = 0
   · subst hm; have hn : news = [] := List.eq_nil_of_length_eq_zero (by simpa using hl); subst hn; refine ⟨.slice none 0 0, w, ?_, World.ownsRow_nil w base e i.size, ⟨rfl, rfl, rfl, Nat.le_refl _, fun _ _ _ => rfl⟩, .inl rfl⟩; have hc := hs.cells
     rcases hs.kind with ⟨e', hk⟩ | hk <;>
       simp [Builtin.append_, run_underlying ht, run_underlying hk, sizeOf, typeInfo, hi, hs.len, hc]
   · have hr := run_append_grow_src (P := P) w t tx ty e i z ht hi hz none 0 0 [] (run_firstCells_none w.drew i.size 0 0 0) x m news hs (by omega) (by omega) (growslice_fits (by omega) (by simpa using hbytes)); have hgr := grown 0 (by omega) (Value.ownBlock (.slice none 0 0)); simp only [Nat.zero_add, List.nil_append] at hgr hr ⊢; exact ⟨_, _, hr, hgr.1, hgr.2, .inr rfl⟩
 · by_cases hroom : n + m ≤ cap
   · have hfit : n * i.size + news.length ≤ cur.size := by rw [hl, hcs, ← Nat.add_mul]; exact Nat.mul_le_mul_right _ hroom
     have hst := run_storeCells_at P g (n * i.size) e news 0 cur w hg (by simpa using hfit) hs.one; simp only [Nat.add_zero] at hst
     have hr : (Builtin.append_ #[t, tx] ty #[.slice (some ⟨g, 0, none⟩) n cap, x]).run P w = .ok (.slice (some ⟨g, 0, none⟩) (n + m) cap) (w.setRow g (cur.toList.take (n * i.size) ++ news ++ cur.toList.drop (n * i.size + news.length)).toArray) := by
      rcases hs.kind with ⟨e', hk⟩ | hk <;>
        simp [Builtin.append_, run_underlying ht, run_underlying hk, sizeOf, typeInfo, hi, hs.len, hroom, hs.cells, Addr.add_lit, hst]
     refine ⟨_, _, hr, ⟨hlen, .inr ⟨g, cap, _, rfl, hbg, setRow_heap w g cur _ e _ hg, hroom, hcm, ?_, ?_⟩⟩, ⟨rfl, rfl, rfl, by simp, fun k _ hk => setRow_other w g k _ (fun e => hk (by simp [Value.ownBlock, e]))⟩, .inl rfl⟩
     · simp only [List.size_toArray, List.length_append, List.length_take, List.length_drop, Array.length_toList]; omega
     · rw [htake, ← hlen]; exact List.take_left
   · have holds : ∀ j u, xs[j]? = some u → w.drew.cell? ((⟨g, 0, none⟩ : Addr).add j) = some u := fun j u hu => by simpa using hown.cells (g := g) rfl j u hu
     have hr := run_append_grow_src (P := P) w t tx ty e i z ht hi hz (some ⟨g, 0, none⟩) n cap xs (run_firstCells_some (P := P) w.drew i.size n ⟨g, 0, none⟩ n cap xs hown.1 holds) x m news hs (by omega) (by omega) (growslice_fits (by omega) hbytes); have hgr := grown cap (by omega) (Value.ownBlock (.slice (some ⟨g, 0, none⟩) n cap)); exact ⟨_, _, hr, hgr.1, hgr.2, .inr rfl⟩
theorem byte_cells (ns : List Int) (hn : ∀ x ∈ ns, 0 ≤ x ∧ x < 256) : (ns.map fun x => x.toNat.toUInt8).map (fun b => Value.int .u8 b.toNat) = ns.map (Value.int .u8) := by
 rw [List.map_map]
 apply List.map_congr_left
 intro x hx
 have := hn x hx
 have h2 : (x.toNat.toUInt8).toNat = x.toNat := by simp [Nat.toUInt8]; omega
 simp only [Function.comp, h2]; rw [show ((x.toNat : Nat) : Int) = x by omega]
theorem wpList_append_new_at {P : Program} {w : World} {ops : Array Oper} {rest : List Oper} {o : Oper} {a : Act} {Q : Exit → Act → World → Prop} (hgd : o.guard = none) (s x : Operand) (t : TypeId)
    (ho : o.op = .call { callee := .builtin .append, args := #[s, x], argTypes := #[t, t] })
    (base : Nat) (e : TypeId) (i : TypeInfo) (z : Value) (ht : P.underlying t = some (.slice e)) (hi : P.info? e = some i) (hz : i.zero = some z)
    (hsize : i.size = 1) (hby : i.bytes = 1) (hzs : z.cells.size = 1) (v : Value) (l : List UInt8) (hs : a.eval s = v) (hown : OwnB w base e v l) (ad : Addr) (m c : Nat) (hx : a.eval x = .slice (some ad) m c) (ns : List Int)
    (hm : ns.length = m) (hcell : ∀ j u, (ns.map (Value.int .u8))[j]? = some u → w.cell? (ad.add j) = some u) (hn : ∀ x ∈ ns, 0 ≤ x ∧ x < 256)
    (hb : l.length + m ≤ 140737488355328) (hbase : base ≤ w.heap.size)
    (h : ∀ v' w', OwnB w' base e v' (l ++ ns.map fun x => x.toNat.toUInt8) → w.grownBy w' v.ownBlock → (v'.ownBlock = v.ownBlock ∨ v'.ownBlock = some w.heap.size) → wpList P ops Q rest (a.put o.dst v') w') : wpList P ops Q (o :: rest) a w := by
 subst hm
 refine wpList_plain hgd fun K' hK' => ?_
 have hone : ∀ u ∈ ns.map (Value.int .u8), u.oneCell' = true := by
  intro u hu
  obtain ⟨_, _, rfl⟩ := List.mem_map.1 hu; rfl
 obtain ⟨v', w', hr, h2, h3, h4⟩ := run_append_own_at (P := P) w base t t o.type e i z 1 1 ht hi hz hsize hby hzs (by omega) v l.length _ hown (.slice (some ad) ns.length c) ns.length (ns.map (Value.int .u8)) (Src.ofSlice w ht ad ns.length c _ (by simp) hcell hone) (append_bound hb) (by omega) hbase; unfold Oper.wp execOp; simp only [ho, resolve, invoke, builtin, Sem.run_bind, Sem.run_pure, Result.andThen_ok, List.map_toArray, List.map_cons, List.map_nil, hs, hx, hr]; refine hK' _ _ (h v' w' ?_ h3 h4); unfold OwnB; rw [List.length_append, List.map_append, byte_cells ns hn, List.length_map]
 exact h2
theorem wpList_append_str_at {P : Program} {w : World} {ops : Array Oper} {rest : List Oper} {o : Oper} {a : Act} {Q : Exit → Act → World → Prop} (hgd : o.guard = none) (s x : Operand) (t tx : TypeId)
    (ho : o.op = .call { callee := .builtin .append, args := #[s, x], argTypes := #[t, tx] })
    (base : Nat) (e : TypeId) (i : TypeInfo) (z : Value) (ht : P.underlying t = some (.slice e)) (htx : P.underlying tx = some .string) (hi : P.info? e = some i) (hz : i.zero = some z)
    (hsize : i.size = 1) (hby : i.bytes = 1) (hzs : z.cells.size = 1) (v : Value) (l : List UInt8) (hs : a.eval s = v) (hown : OwnB w base e v l) (str : ByteArray) (hx : a.eval x = .string str)
    (hb : l.length + str.size ≤ 140737488355328) (hbase : base ≤ w.heap.size)
    (h : ∀ v' w', OwnB w' base e v' (l ++ str.data.toList) → w.grownBy w' v.ownBlock → (v'.ownBlock = v.ownBlock ∨ v'.ownBlock = some w.heap.size) → wpList P ops Q rest (a.put o.dst v') w') : wpList P ops Q (o :: rest) a w := by
 refine wpList_plain hgd fun K' hK' => ?_
 have hl : str.data.toList.length = str.size := by simp
 obtain ⟨v', w', hr, h2, h3, h4⟩ := run_append_own_at (P := P) w base t tx o.type e i z 1 1 ht hi hz hsize hby hzs (by omega) v l.length _ hown (.string str) str.size _ (Src.ofString w htx str) (append_bound hb) (by omega) hbase; unfold Oper.wp execOp; simp only [ho, resolve, invoke, builtin, Sem.run_bind, Sem.run_pure, Result.andThen_ok, List.map_toArray, List.map_cons, List.map_nil, hs, hx, hr]; refine hK' _ _ (h v' w' ?_ h3 h4); unfold OwnB; rw [List.length_append, List.map_append, hl]; exact h2
end Go.Ms
namespace Go.Proofs.YthlinmkengoliaaGreatDoor
open Go.RowKit Go.Ms Go.Lib
structure BO (b B : Nat) (v : Value) (l : Bs) (w : World) : Prop where
  hB : B ≤ b
  blk : w.heap[b]? = some (.cells #[.pointer (some ⟨b, 0, none⟩), v] 79 (0, 0))
  own : OwnB w B 5 v l
  ne : v.ownBlock ≠ some b
structure BW (b B : Nat) (v v' : Value) (l : Bs) (w w' : World) : Prop where
  bo : BO b B v' l w'
  bel : Below B w w'
  at' : v'.ownBlock = v.ownBlock ∨ ∃ k, v'.ownBlock = some k ∧ w.heap.size ≤ k
  keep : ∀ K, K < w.heap.size → K ≠ b → v.ownBlock ≠ some K → w'.heap[K]? = w.heap[K]?
theorem BO.isF {b B : Nat} {v : Value} {l : Bs} {w : World} (h : BO b B v l w) : IsBuilderF 79 5 B b (Lib.byteCells l) w := by
 have h2 : w.ownsRow B 5 1 v (Lib.byteCells l).length (Lib.byteCells l) := by rw [Lib.byteCells_length]; exact h.own
 have hA : BuilderAt 79 5 B b (.pointer (some ⟨b, 0, none⟩)) (Lib.byteCells l) w := ⟨h.hB, v, h.blk, h2, h.ne⟩; exact .inr (BuilderAtF.of hA)
theorem BO.drew {b B : Nat} {v : Value} {l : Bs} {w : World} (h : BO b B v l w) (n : Nat) : BO b B v l (w.drewN n) := ⟨h.hB, h.blk, h.own, h.ne⟩
theorem BO.lt {b B : Nat} {v : Value} {l : Bs} {w : World} (h : BO b B v l w) : b < w.heap.size := (Array.getElem?_eq_some_iff.1 h.blk).1
theorem BO.kept {b B : Nat} {v : Value} {l : Bs} {w w' : World} (h : BO b B v l w) (hb : Below w.heap.size w w') : BO b B v l w' :=
  ⟨h.hB, by rw [hb.block b h.lt]; exact h.blk, h.own.kept hb, h.ne⟩
theorem block_store {w : World} {b T : Nat} {x y : Value} (h : w.heap[b]? = some (.cells #[x, y] T (0, 0))) (u : Value) : (w.setCell ⟨b, 1, none⟩ u).heap[b]? = some (.cells #[x, u] T (0, 0)) := by
 simp [World.setCell, Array.getElem?_modify, h]
theorem _root_.Go.Ms.OwnB.store {w : World} {B e g n cap : Nat} {l : Bs} (h : OwnB w B e (.slice (some ⟨g, 0, none⟩) n cap) l) (b : Nat) (hgb : g ≠ b) (i : Nat) (u : Value) : OwnB (w.setCell ⟨b, i, none⟩ u) B e (.slice (some ⟨g, 0, none⟩) n cap) l :=
  World.ownsRow.kept h (row := some b) ⟨rfl, rfl, rfl, by simp [World.setCell], fun k _ hk => Below.heap_setCell _ _ _ _ (by intro e1; exact hk (by rw [e1]))⟩ (.inr (by intro e1; exact hgb (Option.some.inj e1)))
set_option maxRecDepth 100000 in
set_option maxHeartbeats 2000000 in
theorem wbyteO (b B : Nat) (v : Value) (l : Bs) (c : Int) (w : World) (h : BO b B v l w) (hc : 0 ≤ c ∧ c < 256) (hlen : l.length + 1 ≤ 140737488355328) (hBw : B ≤ w.heap.size) :
    Calls Tryz.prog 153 #[.pointer (some ⟨b, 0, none⟩), .int .u8 c] w fun e w' => e = .returned .nilIface ∧ ∃ v', BW b B v v' (l ++ [c.toNat.toUInt8]) w w' := by
 obtain ⟨i0, hi, hz0, hz1, hz2⟩ := info_parts infoByte; have hbk := h.blk; have hlt := h.lt
 have c0 : w.cell? ⟨b, 0, none⟩ = some (.pointer (some ⟨b, 0, none⟩)) := by rw [Lib.cell_of_heap hbk]; rfl
 have c1 : w.cell? ⟨b, 1, none⟩ = some v := by rw [Lib.cell_of_heap hbk]; rfl
 have cu := check_used b w c0; have CU := Lib.hid cu
 have hcell : ∀ j u, (([c] : List Int).map (Value.int .u8))[j]? = some u → (w.alloc (.cells #[.int .u8 c] 5)).cell? ((⟨w.heap.size, 0, none⟩ : Addr).add j) = some u := by
  intro j u hj
  match j, hj with
  | 0, hj =>
   simp at hj
   subst hj
   have hadd : (⟨w.heap.size, 0, none⟩ : Addr).add 0 = ⟨w.heap.size, 0, none⟩ := by unfold Addr.add; simp
   rw [hadd, Lib.cell_of_heap (heap_alloc_new w _)]; rfl
 have hns : ∀ x ∈ ([c] : List Int), 0 ≤ x ∧ x < 256 := by intro x hx; rw [List.mem_singleton] at hx; subst hx; exact hc
 have ownA := h.own.alloc (.cells #[.int .u8 c] 5)
 have hsA : B ≤ (w.alloc (.cells #[.int .u8 c] 5)).heap.size := by simp; omega
 have HCELL := Lib.hid hcell; have HNS := Lib.hid hns; have HLEN := Lib.hid hlen; clear cu hcell hns hlen
 go_enter Tryz.func153, Tryz.ntmps153
 go_wp2_with fail
 refine CU.out.mono ?_; rintro en w1 ⟨rfl, hw1⟩; subst hw1
 go_wp2_with (at_builtin; refine wpList_append_new_at rfl _ _ 77 rfl B 5 i0 (.int .u8 0) Tryz.underlying77 hi hz0 hz1 hz2 rfl v l rfl ownA ⟨w1.heap.size, 0, none⟩ 1 1 rfl [c] rfl HCELL.out HNS.out HLEN.out hsA ?_)
 intro v' w2 hown' hgrow hat
 have hb2 : w2.heap[b]? = some (.cells #[.pointer (some ⟨b, 0, none⟩), v] 79 (0, 0)) := by
  rw [hgrow.block b (by simp; omega) (fun e => h.ne e.symm), Lib.alloc_old w1 _ b hlt]; exact hbk
 have d0 : w2.cell? ⟨b, 0, none⟩ = some (.pointer (some ⟨b, 0, none⟩)) := by rw [Lib.cell_of_heap hb2]; rfl
 have d1 : w2.cell? ⟨b, 1, none⟩ = some v := by rw [Lib.cell_of_heap hb2]; rfl
 have f1 : w2.frozen? ⟨b, 1, none⟩ = false := Lib.frozen_of_heap hb2 1
 obtain ⟨g, cap, rfl⟩ : ∃ g cap, v' = .slice (some ⟨g, 0, none⟩) (l.length + 1) cap := by
  rcases hown'.2 with ⟨_, h0⟩ | ⟨g, cap, cur, hv, _⟩
  · simp at h0
  · exact ⟨g, cap, by simpa using hv⟩
 have hgb : g ≠ b := by
  intro e
  subst e
  rcases hat with ha | ha
  · exact h.ne (by rw [← ha]; rfl)
  · have ha2 : g = w1.heap.size + 1 := Option.some.inj ha; omega
 have hown2 := hown'.store b hgb 1 (.slice (some ⟨g, 0, none⟩) (l.length + 1) cap); have hbk2 := block_store hb2 (.slice (some ⟨g, 0, none⟩) (l.length + 1) cap)
 have hbel : Below B w1 (w2.setCell ⟨b, 1, none⟩ (.slice (some ⟨g, 0, none⟩) (l.length + 1) cap)) :=
   (ownA.below ((Below.refl _ _).alloc hBw _) hsA hgrow).setCell (p := ⟨b, 1, none⟩) h.hB _
 have hkeep : ∀ K, K < w1.heap.size → K ≠ b → v.ownBlock ≠ some K → (w2.setCell ⟨b, 1, none⟩ (.slice (some ⟨g, 0, none⟩) (l.length + 1) cap)).heap[K]? = w1.heap[K]? := by
  intro K hK hKb hKv
  rw [Below.heap_setCell _ _ _ _ (by exact hKb), hgrow.block K (by simp; omega) (fun e => hKv e.symm), Lib.alloc_old w1 _ K hK]
 have hat2 : (Value.slice (some ⟨g, 0, none⟩) (l.length + 1) cap).ownBlock = v.ownBlock ∨ ∃ k, (Value.slice (some ⟨g, 0, none⟩) (l.length + 1) cap).ownBlock = some k ∧ w1.heap.size ≤ k := by
  rcases hat with ha | ha
  · exact .inl ha
  · exact .inr ⟨_, ha, by simp⟩
 have HO := Lib.hid hown2; have HK := Lib.hid hbk2; have HL := Lib.hid hbel; have HP := Lib.hid hkeep; have HA := Lib.hid hat2
 clear hown2 hbk2 hbel hkeep hat2 hat hown' hgrow ownA
 go_wp2
 go_ret
 exact ⟨rfl, _, ⟨h.hB, HK.out, HO.out, fun e => hgb (Option.some.inj e)⟩, HL.out, HA.out, HP.out⟩
set_option maxRecDepth 100000 in
set_option maxHeartbeats 2000000 in
theorem wstrO_fresh (str : ByteArray) (w : World) (hs : str.size ≤ 1000000) (h1 : 1 ≤ str.size) :
    Calls Tryz.prog 56 #[.pointer (some ⟨w.heap.size, 0, none⟩), .string str] (w.alloc (.cells #[.pointer none, .slice none 0 0] 79)) fun e w' => e = .returned (.tuple #[.int .i64 str.size, .nilIface]) ∧ ∃ v', BO w.heap.size w.heap.size v' str.data.toList w' ∧ Below w.heap.size w w' := by
 obtain ⟨i0, hi, hz0, hz1, hz2⟩ := info_parts infoByte; obtain ⟨W, hW⟩ : ∃ W, w.alloc (.cells #[.pointer none, .slice none 0 0] 79) = W := ⟨_, rfl⟩
 have hI : IsBuilderF 79 5 w.heap.size w.heap.size [] W := by rw [← hW]; exact IsBuilderF.of (Lib.fresh_isBuilder 79 5 w)
 have hbk : W.heap[w.heap.size]? = some (.cells #[.pointer none, .slice none 0 0] 79 (0, 0)) := by rw [← hW]; exact heap_alloc_new w _
 have hB0 : Below w.heap.size w W := by rw [← hW]; exact (Below.refl _ _).alloc (Nat.le_refl _) _
 have hlt : w.heap.size < W.heap.size := by rw [← hW]; simp
 rw [hW]; obtain ⟨b, hb⟩ : ∃ b, w.heap.size = b := ⟨_, rfl⟩; rw [hb] at hI hbk hB0 hlt ⊢
 have c0 : W.cell? ⟨b, 0, none⟩ = some (.pointer none) := by rw [Lib.cell_of_heap hbk]; rfl
 have c1 : W.cell? ⟨b, 1, none⟩ = some (.slice none 0 0) := by rw [Lib.cell_of_heap hbk]; rfl
 have hsh : W.shape? b = some (79, 2) := by simp [World.shape?, hbk]
 have cf := check_fresh b W c0 hsh (Lib.frozen_of_heap hbk 0)
 have hbk1 : (W.setCell ⟨b, 0, none⟩ (.pointer (some ⟨b, 0, none⟩))).heap[b]? = some (.cells #[.pointer (some ⟨b, 0, none⟩), .slice none 0 0] 79 (0, 0)) := by
  simp [World.setCell, Array.getElem?_modify, hbk]
 obtain ⟨W1, hW1⟩ : ∃ W1, W.setCell ⟨b, 0, none⟩ (.pointer (some ⟨b, 0, none⟩)) = W1 := ⟨_, rfl⟩
 have hB1 : Below b w W1 := by rw [← hW1]; exact hB0.setCell (p := ⟨b, 0, none⟩) (Nat.le_refl _) _
 have hlt1 : b < W1.heap.size := by rw [← hW1]; simpa [World.setCell] using hlt
 rw [hW1] at cf hbk1
 have d0 : W1.cell? ⟨b, 0, none⟩ = some (.pointer (some ⟨b, 0, none⟩)) := by rw [Lib.cell_of_heap hbk1]; rfl
 have d1 : W1.cell? ⟨b, 1, none⟩ = some (.slice none 0 0) := by rw [Lib.cell_of_heap hbk1]; rfl
 have ownA : OwnB W1 b 5 (.slice none 0 0) [] := OwnB.nil _ _ _; have CF := Lib.hid cf
 have HS : Hid (([] : Bs).length + str.size ≤ 140737488355328) := by show _ ≤ _; simp; omega
 have hbB : b ≤ W1.heap.size := by omega
 clear cf hW hb hW1 c0 c1 hsh hI hbk
 go_enter Tryz.func56, Tryz.ntmps56
 go_wp2_with fail
 refine CF.out.mono ?_; rintro en w1 ⟨rfl, hw1⟩; subst hw1
 go_wp2_with (at_builtin; refine wpList_append_str_at rfl _ _ 77 9 rfl b 5 i0 (.int .u8 0) Tryz.underlying77 Tryz.underlying9 hi hz0 hz1 hz2 rfl (.slice none 0 0) [] rfl ownA str rfl HS.out hbB ?_)
 intro v' w2 hown' hgrow hat
 have hb2 : w2.heap[b]? = some (.cells #[.pointer (some ⟨b, 0, none⟩), .slice none 0 0] 79 (0, 0)) := by
  rw [hgrow.block b hlt1 (by simp [Value.ownBlock])]; exact hbk1
 have e0 : w2.cell? ⟨b, 0, none⟩ = some (.pointer (some ⟨b, 0, none⟩)) := by rw [Lib.cell_of_heap hb2]; rfl
 have e1 : w2.cell? ⟨b, 1, none⟩ = some (.slice none 0 0) := by rw [Lib.cell_of_heap hb2]; rfl
 have f1 : w2.frozen? ⟨b, 1, none⟩ = false := Lib.frozen_of_heap hb2 1
 have hlen : str.data.toList.length = str.size := by simp
 obtain ⟨g, cap, rfl⟩ : ∃ g cap, v' = .slice (some ⟨g, 0, none⟩) str.size cap := by
  rcases hown'.2 with ⟨_, h0⟩ | ⟨g, cap, cur, hv, _⟩
  · have h0' : ([] ++ str.data.toList).length = 0 := h0
    rw [List.nil_append] at h0'; omega
  · exact ⟨g, cap, by rw [hv]; simp⟩
 have hgb : g ≠ b := by
  intro e
  subst e
  rcases hat with ha | ha
  · simp [Value.ownBlock] at ha
  · have ha2 : g = w1.heap.size := Option.some.inj ha; omega
 have hown'' : OwnB w2 b 5 (.slice (some ⟨g, 0, none⟩) str.size cap) str.data.toList := by simpa using hown'
 have hown2 := hown''.store b hgb 1 (.slice (some ⟨g, 0, none⟩) str.size cap); have hbk2 := block_store hb2 (.slice (some ⟨g, 0, none⟩) str.size cap)
 have hbel : Below b w (w2.setCell ⟨b, 1, none⟩ (.slice (some ⟨g, 0, none⟩) str.size cap)) :=
   (ownA.below hB1 hbB hgrow).setCell (p := ⟨b, 1, none⟩) (Nat.le_refl _) _
 have HO := Lib.hid hown2; have HK := Lib.hid hbk2; have HL := Lib.hid hbel
 clear hown2 hbk2 hbel hat hown' hgrow ownA hown'' hlen
 go_wp2
 go_ret2
 exact ⟨rfl, _, ⟨Nat.le_refl _, HK.out, HO.out, fun e => hgb (Option.some.inj e)⟩, HL.out⟩
end Go.Proofs.YthlinmkengoliaaGreatDoor
