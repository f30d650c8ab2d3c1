/- Rows: lists held against each other and copied, by the statements' helpers. Rows: rows cut short, in memory of their own. Rows: what the reference checks, compares and picks. Rows: keys, as the reference puts them together. Rows: keys, as the reference takes them apart. -/
import Derived.Test.YtcdmiiaamajfoaaGreatDoorYYb
import Derived.Test.YtcdmiiaamajfoaaGreatDoorYYc
set_option linter.unusedVariables false
namespace Go.Ms
open Go.RowKit Go.Lib
/-- As Lay, at whatever address. -/
def Ext (w : World) (B : Nat) (A : Option Addr) (xs : List Value) : Prop := ∀ j u, xs[j]? = some u → ∃ a, A = some a ∧ a.block < B ∧ w.cell? (a.add j) = some u
theorem adr_block (a : Addr) (n : Nat) : (a.add n).block = a.block := by unfold Addr.add; split <;> rfl
theorem Ext.keep {w w' : World} {B : Nat} {A : Option Addr} {xs : List Value} (h : Ext w B A xs) (hb : Below B w w') : Ext w' B A xs := fun j u hu => by
  obtain ⟨a, e, hl, hc⟩ := h j u hu
  exact ⟨a, e, hl, (hb.cell (by rw [adr_block]; exact hl)).trans hc⟩
theorem Ext.more {w : World} {B B' : Nat} {A : Option Addr} {xs : List Value} (h : Ext w B A xs) (hB : B ≤ B') : Ext w B' A xs := fun j u hu => by
  obtain ⟨a, e, hl, hc⟩ := h j u hu
  exact ⟨a, e, by omega, hc⟩
theorem Ext.take {w : World} {B : Nat} {A : Option Addr} {xs : List Value} (h : Ext w B A xs) (n : Nat) : Ext w B A (xs.take n) := fun j u hu => by
  refine h j u ?_
  rw [List.getElem?_take] at hu
  split at hu
  · exact hu
  · cases hu
theorem Lay.ext {w : World} {B : Nat} {A : Option Addr} {xs : List Value} (h : Lay w B A xs) : Ext w B A xs := fun j u hu => by
  obtain ⟨g, o, e, hl, hc⟩ := h j u hu
  exact ⟨_, e, hl, by rw [Addr.add_lit]; exact hc⟩
theorem Ext.none_len {w : World} {B : Nat} {xs : List Value} (h : Ext w B none xs) : xs = [] := by
  rcases xs with _ | ⟨x, t⟩
  · rfl
  · obtain ⟨_, e, _⟩ := h 0 x rfl
    cases e
theorem Ext.src {P : Program} {w : World} {B size m c : Nat} {A : Option Addr} {xs : List Value} {tx e : TypeId} (h : Ext w B A xs) (hk : P.underlying tx = some (.slice e)) (hl : xs.length = m * size) (hs : 0 < size) (h1 : ∀ u ∈ xs, u.oneCell' = true) : Src P size tx (.slice A m c) m xs w := by
  rcases A with _ | a
  · have hx := h.none_len
    subst hx
    have h0 : m = 0 := by
      rcases Nat.eq_zero_or_pos m with h0 | h0
      · exact h0
      · have := Nat.mul_pos h0 hs; simp at hl; omega
    subst h0
    exact Src.ofNil w hk c
  · refine Src.ofSlice w hk a m c xs hl (fun j u hu => ?_) h1
    obtain ⟨a', e, _, hc⟩ := h j u hu
    cases e
    exact hc
/-- append(nil, l...) makes a list of one's own. -/
theorem wpList_copy_ext {P : Program} {w : World} {ops : Array Oper} {rest : List Oper} {o : Oper} {a : Act} {Q : Exit → Act → World → Prop} (hgd : o.guard = none) (s x : Operand) (t : TypeId)
    (ho : o.op = .call { callee := .builtin .append, args := #[s, x], argTypes := #[t, t] })
    (base : Nat) (e : TypeId) (i : TypeInfo) (z : Value) (size bytes : Nat) (ht : P.underlying t = some (.slice e)) (hi : P.info? e = some i) (hz : i.zero = some z)
    (hsize : i.size = size) (hby : i.bytes = bytes) (hzs : z.cells.size = size) (hsz : 0 < size)
    (hs : a.eval s = .slice none 0 0) (B : Nat) (A : Option Addr) (m c : Nat) (news : List Value) (hx : a.eval x = .slice A m c) (hl : news.length = m * size) (hnews : Ext w B A news) (h1 : ∀ u ∈ news, u.oneCell' = true)
    (h63 : m ≤ maxLen) (hbytes : m * bytes ≤ 140737488355328) (hbase : base ≤ w.heap.size)
    (h : ∀ v' w', w'.ownsRow base e size v' m news → Below w.heap.size w w' → wpList P ops Q rest (a.put o.dst v') w') : wpList P ops Q (o :: rest) a w := by
  refine wpList_plain hgd fun K' hK' => ?_
  obtain ⟨v', w', hr, h2, h3⟩ := run_append_own_src (P := P) w base t t o.type e i z size bytes ht hi hz hsize hby hzs hsz (.slice none 0 0) 0 [] (World.ownsRow_nil w base e size) (.slice A m c) m news (hnews.src ht hl hsz h1) (by omega) (by rw [Nat.zero_add]; exact hbytes) hbase
  unfold Oper.wp execOp
  simp only [ho, resolve, invoke, builtin, Sem.run_bind, Sem.run_pure, Result.andThen_ok, List.map_toArray, List.map_cons, List.map_nil, hs, hx, hr]
  refine hK' _ _ (h v' w' (by simpa using h2) ((Below.refl _ _).grown h3 (Nat.le_refl _) (fun k hk => by cases hk)))
end Go.Ms
namespace Go.Proofs.YtcdmiiaamajfoaaGreatDoor
open Go.RowKit Go.Ms Go.Lib
set_option maxRecDepth 100000 in
set_option maxHeartbeats 1000000 in
theorem reqrow_any (w : World) (A B : Option Addr) (n cap m capm : Nat) (xs ys : List Cl) (hn' : n ≤ maxLen) (hm' : m ≤ maxLen) (hn : n = xs.length) (hm : m = ys.length) (hA : Lay w w.heap.size A (rowV xs)) (hB : Lay w w.heap.size B (rowV ys)) :
    Calls Tryz.prog 65 #[.slice A n cap, .slice B m capm] w fun e w' => e = .returned (.bool (decide (xs = ys))) ∧ Below w.heap.size w w' := by
  unfold maxLen at hn' hm'
  by_cases hnm : n = m
  · subst hnm
    have HA := Lib.hid hA; have HB := Lib.hid hB; have HN := Lib.hid hn; have HM := Lib.hid hm
    clear hA hB hn hm
    go_enter Tryz.func65, Tryz.ntmps65
    go_wp2_with fail
    go_loopw [5] (fun id wr => ∃ k : Nat, k ≤ n ∧ id = .int .i64 k ∧ Below w.heap.size w wr ∧ xs.take k = ys.take k) (fun id _ => n - (RowKit.intOf id).toNat)
    case atStart => exact ⟨0, by omega, rfl, Below.refl _ _, rfl⟩
    case round =>
      obtain ⟨k, hk, rfl, hb, hr⟩ := hrel
      have HR := Lib.hid hr
      clear hr
      by_cases hlk : k < n
      · have hki : (k : Int) < n := by omega
        obtain ⟨c, hc⟩ : ∃ c, xs[k]? = some c := ⟨_, List.getElem?_eq_getElem (by rw [← HN.out]; omega)⟩
        obtain ⟨d, hd⟩ : ∃ c, ys[k]? = some c := ⟨_, List.getElem?_eq_getElem (by rw [← HM.out]; omega)⟩
        obtain ⟨g, o, rfl, hg, h1, h2, h3⟩ := HA.out.cl hc
        obtain ⟨g', o', rfl, hg', h4, h5, h6⟩ := HB.out.cl hd
        have g1 := (hb.cell hg).trans h1
        have g2 := (hb.cell hg).trans h2
        have g3 := (hb.cell hg).trans h3
        have g4 := (hb.cell hg').trans h4
        have g5 := (hb.cell hg').trans h5
        have g6 := (hb.cell hg').trans h6
        clear h1 h2 h3 h4 h5 h6
        have HB := Lib.hid hb
        clear hb
        have HC := Lib.hid hc; have HD := Lib.hid hd
        clear hc hd
        obtain ⟨u, nn, S⟩ := c
        obtain ⟨v, mm, T⟩ := d
        simp only at g1 g2 g3 g4 g5 g6
        have he := fun w => run_cell_eq u v nn mm S T w
        have hst : xs.take (k + 1) = ys.take (k + 1) ↔ (u, nn, S) = (v, mm, T) := by
          rw [List.take_add_one, List.take_add_one, HC.out, HD.out, HR.out]
          simp
        have HST := Lib.hid hst
        clear hst
        by_cases hcd : (u, nn, S) = (v, mm, T)
        · rw [decide_eq_true hcd] at he
          have HCD := Lib.hid hcd
          clear hcd
          go_wp2_with fail
          go_quiet (fail)
          go_wp2_with fail
          go_roundw
          case rel => exact ⟨k + 1, by omega, by go_num, ms_drewN HB.out _, HST.out.2 HCD.out⟩
          case measure => simp [RowKit.intOf]; omega
        · rw [decide_eq_false hcd] at he
          have hne : decide (xs = ys) = false := by
            apply decide_eq_false
            intro e
            exact hcd (HST.out.1 (by rw [e]))
          have HNE := Lib.hid hne
          clear hcd hne
          go_wp2_with fail
          go_quiet (fail)
          go_wp2_with fail
          go_ret
          exact ⟨by rw [HNE.out]; rfl, ms_drewN HB.out _⟩
      · have hki : ¬ (k : Int) < n := by omega
        have hkn : k = n := by omega
        have heq : decide (xs = ys) = true := by
          apply decide_eq_true
          have := HR.out
          rw [hkn, List.take_of_length_le (by have := HN.out; omega), List.take_of_length_le (by have := HM.out; omega)] at this
          exact this
        have HEQ := Lib.hid heq
        have HB := Lib.hid hb
        clear heq hkn hb
        go_wp2_with fail
        go_ret
        exact ⟨by rw [HEQ.out]; rfl, HB.out⟩
  · have hne : decide (xs = ys) = false := by
      apply decide_eq_false
      intro e
      rw [e] at hn
      omega
    have h1 : ((n : Int) != m) = true := by simp; omega
    have h2 : (n != m) = true := by simpa using hnm
    rw [hne]
    clear hne hnm hA hB hn hm
    go_enter Tryz.func65, Tryz.ntmps65
    go_wp2_with fail
    go_ret
    exact ⟨rfl, Below.refl _ _⟩
theorem column_info : (Tryz.prog.info? 43).map (fun i => (i.zero, i.size, i.bytes)) = some (some (.agg #[.int .i64 0, .string ⟨#[]⟩, .int .i64 0, .bool false, .bool false, .int .i64 0, .string ⟨#[]⟩]), 7, 72) := by kernel_rfl
set_option maxRecDepth 100000 in
theorem copycols_any (w : World) (A : Option Addr) (n cap : Nat) (xs : List Value) (hn' : n ≤ 100000) (hn : xs.length = n * 7) (hA : Ext w w.heap.size A xs) (h1 : ∀ u ∈ xs, u.oneCell' = true) :
    Calls Tryz.prog 105 #[.slice A n cap] w fun e w' => ∃ v, e = .returned v ∧ w'.ownsRow w.heap.size 43 7 v n xs ∧ Below w.heap.size w w' := by
  obtain ⟨i0, hi, hz0, hz1, hz2⟩ := info_parts column_info
  have HA := Lib.hid hA; have HN := Lib.hid hn; have H1 := Lib.hid h1
  clear hA hn h1
  go_enter Tryz.func105, Tryz.ntmps105
  go_wp2_with (at_builtin; refine wpList_copy_ext rfl (.tmp 4) (.tmp 5) _ rfl w.heap.size 43 i0 _ 7 72 Tryz.underlying29 hi hz0 hz1 hz2 rfl (by omega) rfl w.heap.size A n cap xs rfl HN.out HA.out H1.out (by unfold maxLen; omega) (by omega) (Nat.le_refl _) ?_; intro v1 w1 hown1 hb1)
  have HO := Lib.hid hown1; have HB := Lib.hid hb1
  clear hown1 hb1
  go_wp2_with fail
  go_ret
  exact ⟨_, rfl, HO.out, HB.out⟩
set_option maxRecDepth 100000 in
theorem copyints_any (w : World) (A : Option Addr) (n cap : Nat) (l : List Int) (hn' : n ≤ 100000) (hn : l.length = n) (hA : Ext w w.heap.size A (intV l)) :
    Calls Tryz.prog 106 #[.slice A n cap] w fun e w' => ∃ v, e = .returned v ∧ OwnI w' w.heap.size 3 v l ∧ Below w.heap.size w w' := by
  obtain ⟨i0, hi, hz0, hz1, hz2⟩ := info_parts int_info
  have HA := Lib.hid hA; have HN := Lib.hid hn
  clear hA hn
  go_enter Tryz.func106, Tryz.ntmps106
  go_wp2_with (at_builtin; refine wpList_copy_ext rfl (.tmp 4) (.tmp 5) _ rfl w.heap.size 3 i0 _ 1 8 Tryz.underlying32 hi hz0 hz1 hz2 rfl (by omega) rfl w.heap.size A n cap (intV l) rfl (by unfold intV; rw [List.length_map, HN.out, Nat.mul_one]) HA.out (intV_one _) (by unfold maxLen; omega) (by omega) (Nat.le_refl _) ?_; intro v1 w1 hown1 hb1)
  have HO := Lib.hid hown1; have HB := Lib.hid hb1
  clear hown1 hb1
  go_wp2_with fail
  go_ret
  refine ⟨_, rfl, ?_, HB.out⟩
  unfold OwnI
  rw [HN.out]
  exact HO.out
set_option maxRecDepth 100000 in
theorem lfew_any (w : World) (A : Option Addr) (n cap : Nat) (l : List Int) (hn' : n ≤ cap) (hc' : cap ≤ maxLen) (hn : l.length = n) (hA : Ext w w.heap.size A (intV l)) :
    Calls Tryz.prog 60 #[.slice A n cap] w fun e w' => ∃ v, e = .returned v ∧ OwnI w' w.heap.size 3 v (l.take 12) ∧ Below w.heap.size w w' := by
  have hcall := fun (m : Nat) (h : m = min n 12) => copyints_any w A m cap (l.take 12) (by omega) (by rw [List.length_take]; omega) (by unfold intV; rw [List.map_take]; exact hA.take 12)
  unfold maxLen at hc'
  have HC := Lib.hid hcall
  clear hcall hA hn
  by_cases h0 : n ≤ 12
  · have h1 : (n : Int) ≤ 12 := by omega
    have hm1 : min (n : Int) 12 = n := by omega
    have hcall := HC.out n (by omega)
    have HQ := Lib.hid hcall
    clear hcall
    go_enter Tryz.func60, Tryz.ntmps60
    go_wp2_with fail
    refine HQ.out.mono ?_
    rintro en w1 ⟨v, rfl, ho, hb⟩
    have HO := Lib.hid ho; have HB := Lib.hid hb
    clear ho hb
    go_wp2_with fail
    go_ret
    exact ⟨_, rfl, HO.out, HB.out⟩
  · have h1 : ¬ (n : Int) ≤ 12 := by omega
    have h2 : (12 : Int) < n := by omega
    have hm1 : min (n : Int) 12 = 12 := by omega
    have h3 : 12 ≤ cap := by omega
    have h4 : (12 : Int) ≤ cap := by omega
    have hcall := HC.out 12 (by omega)
    have HQ := Lib.hid hcall
    clear hcall
    go_enter Tryz.func60, Tryz.ntmps60
    go_wp2_with fail
    refine HQ.out.mono ?_
    rintro en w1 ⟨v, rfl, ho, hb⟩
    have HO := Lib.hid ho; have HB := Lib.hid hb
    clear ho hb
    go_wp2_with fail
    go_ret
    exact ⟨_, rfl, HO.out, HB.out⟩
set_option maxRecDepth 100000 in
theorem lcols_any (w : World) (A : Option Addr) (n cap : Nat) (xs : List Value) (hn' : n ≤ cap) (hc' : cap ≤ maxLen) (hn : xs.length = n * 7) (hA : Ext w w.heap.size A xs) (hone : ∀ u ∈ xs, u.oneCell' = true) :
    Calls Tryz.prog 59 #[.slice A n cap] w fun e w' => ∃ v, e = .returned v ∧ w'.ownsRow w.heap.size 43 7 v (min n 40) (xs.take (min n 40 * 7)) ∧ Below w.heap.size w w' := by
  have hcall := fun (m : Nat) (h : m = min n 40) => copycols_any w A m cap (xs.take (m * 7)) (by omega) (by rw [List.length_take]; omega) (hA.take _) (fun u hu => hone u (List.mem_of_mem_take hu))
  unfold maxLen at hc'
  have HC := Lib.hid hcall
  clear hcall hA hn hone
  by_cases h0 : n ≤ 40
  · have h1 : (n : Int) ≤ 40 := by omega
    have hm1 : min (n : Int) 40 = n := by omega
    have hcall := HC.out n (by omega)
    have HQ := Lib.hid hcall
    clear hcall
    go_enter Tryz.func59, Tryz.ntmps59
    go_wp2_with fail
    refine HQ.out.mono ?_
    rintro en w1 ⟨v, rfl, ho, hb⟩
    have HO := Lib.hid ho; have HB := Lib.hid hb
    clear ho hb
    go_wp2_with fail
    go_ret
    have := HO.out
    rw [show min n 40 = n by omega]
    exact ⟨_, rfl, this, HB.out⟩
  · have h1 : ¬ (n : Int) ≤ 40 := by omega
    have h2 : (40 : Int) < n := by omega
    have hm1 : min (n : Int) 40 = 40 := by omega
    have h3 : 40 ≤ cap := by omega
    have h4 : (40 : Int) ≤ cap := by omega
    have hcall := HC.out 40 (by omega)
    have HQ := Lib.hid hcall
    clear hcall
    go_enter Tryz.func59, Tryz.ntmps59
    go_wp2_with fail
    refine HQ.out.mono ?_
    rintro en w1 ⟨v, rfl, ho, hb⟩
    have HO := Lib.hid ho; have HB := Lib.hid hb
    clear ho hb
    go_wp2_with fail
    go_ret
    have := HO.out
    rw [show min n 40 = 40 by omega]
    exact ⟨_, rfl, this, HB.out⟩
end Go.Proofs.YtcdmiiaamajfoaaGreatDoor
namespace Go.Ms
def cutC (c : Cl) : Cl := (c.1, c.2.1, c.2.2.extract 0 (min c.2.2.size 1100))
def cutR (l : List Cl) : List Cl := (l.take 40).map cutC
theorem cutR_len (l : List Cl) : (cutR l).length ≤ 40 := by unfold cutR; rw [List.length_map, List.length_take]; omega
theorem cutR_size (l : List Cl) : ∀ c ∈ cutR l, c.2.2.size ≤ 1100 := by
  intro c hc
  obtain ⟨d, _, rfl⟩ := List.mem_map.1 hc
  show (d.2.2.extract 0 (min d.2.2.size 1100)).size ≤ 1100
  rw [ByteArray.size_extract]; omega
theorem cut_take {l : List Cl} {k : Nat} {c : Cl} (h : l[k]? = some c) : (l.take (k + 1)).map cutC = (l.take k).map cutC ++ [cutC c] := by
  rw [List.take_add_one, List.map_append, h]; rfl
theorem adr_next (a : Addr) (m j : Nat) : a.add (m + (j + 1)) = ⟨(a.add m).block, (a.add m).off + (j + 1), none⟩ := by
  unfold Addr.add
  by_cases h : m = 0
  · subst h; simp
  · simp [h, Nat.add_assoc]
end Go.Ms
namespace Go.Proofs.YtcdmiiaamajfoaaGreatDoor
open Go.RowKit Go.Ms Go.Lib
set_option maxRecDepth 100000 in
set_option maxHeartbeats 1000000 in
theorem lcut_any (w : World) (A : Option Addr) (n cap : Nat) (l : List Cl) (hn' : n ≤ maxLen) (hn : l.length = n) (hA : Ext w w.heap.size A (rowV l)) (hS : ∀ c ∈ l, c.2.2.size ≤ maxLen) :
    Calls Tryz.prog 61 #[.slice A n cap] w fun e w' => ∃ v, e = .returned v ∧ OwnC w' w.heap.size 23 v (cutR l) ∧ Below w.heap.size w w' := by
  obtain ⟨i0, hi, hz0, hz1, hz2⟩ := info_parts cell_info
  unfold maxLen at hn' hS
  have HA := Lib.hid hA; have HN := Lib.hid hn; have HS := Lib.hid hS
  clear hA hn hS
  go_enter Tryz.func61, Tryz.ntmps61
  go_wp2_with fail
  go_loopw [3, 4] (fun v id wr => ∃ k : Nat, k ≤ n ∧ k ≤ 40 ∧ id = .int .i64 k ∧ OwnC wr w.heap.size 23 v ((l.take k).map cutC) ∧ Below w.heap.size w wr) (fun _ id _ => 41 - (RowKit.intOf id).toNat)
  case atStart => exact ⟨0, by omega, by omega, rfl, World.ownsRow_nil _ _ _ _, Below.refl _ _⟩
  case round =>
    obtain ⟨k, hk, hk40, rfl, hown, hb⟩ := hrel
    by_cases hlk : k < n
    · have hki : (k : Int) < n := by omega
      by_cases h40 : k < 40
      · have hk4 : (k : Int) < 40 := by omega
        obtain ⟨c, hc⟩ : ∃ c, l[k]? = some c := ⟨_, List.getElem?_eq_getElem (by rw [HN.out]; exact hlk)⟩
        obtain ⟨q1, q2, q3⟩ := rowV_at l k c hc
        obtain ⟨a, rfl, hab, m1⟩ := HA.out _ _ q1
        obtain ⟨a', ea, _, m2⟩ := HA.out _ _ q2
        cases ea
        obtain ⟨a', ea, _, m3⟩ := HA.out _ _ q3
        cases ea
        have g1 := (hb.cell (by rw [adr_block]; exact hab)).trans m1
        have g2 := (hb.cell (by rw [adr_block]; exact hab)).trans m2
        have g3 := (hb.cell (by rw [adr_block]; exact hab)).trans m3
        rw [show k * 3 + 1 = k * 3 + (0 + 1) by omega, adr_next] at g2
        rw [show k * 3 + 2 = k * 3 + (1 + 1) by omega, adr_next] at g3
        have hsz := HS.out c (List.mem_of_getElem? hc)
        have hct := cut_take hc
        obtain ⟨u, nn, S⟩ := c
        simp only at g1 g2 g3 hsz
        have HO := Lib.hid hown; have HB := Lib.hid hb; have HCT := Lib.hid hct
        clear hown hb hct hc q1 q2 q3 m1 m2 m3
        by_cases hs11 : S.size ≤ 1100
        · have hsi : (S.size : Int) ≤ 1100 := by omega
          have hm1 : min (S.size : Int) 1100 = S.size := by omega
          have hcc : cutC (u, nn, S) = (u, nn, S) := by
            show (u, nn, S.extract 0 (min S.size 1100)) = _
            rw [show min S.size 1100 = S.size by omega, ByteArray.extract_zero_size]
          have hb1 : Below w.heap.size w ((wr.alloc (.cells #[.bool u, .int .i64 nn, .string S] 23)).alloc (.cells #[.bool u, .int .i64 nn, .string S] 23)) := (HB.out.alloc HB.out.size _).alloc (by have := HB.out.size; simp; omega) _
          have hnew : Lay ((wr.alloc (.cells #[.bool u, .int .i64 nn, .string S] 23)).alloc (.cells #[.bool u, .int .i64 nn, .string S] 23)) ((wr.alloc (.cells #[.bool u, .int .i64 nn, .string S] 23)).alloc (.cells #[.bool u, .int .i64 nn, .string S] 23)).heap.size (some ⟨wr.heap.size + 1, 0, none⟩) (rowV [(u, nn, S)]) := by
            have := lay_new (wr.alloc (.cells #[.bool u, .int .i64 nn, .string S] 23)) [.bool u, .int .i64 nn, .string S] 23
            rw [show (wr.alloc (.cells #[.bool u, .int .i64 nn, .string S] 23)).heap.size = wr.heap.size + 1 by simp] at this
            exact this
          have hown1 : ((wr.alloc (.cells #[.bool u, .int .i64 nn, .string S] 23)).alloc (.cells #[.bool u, .int .i64 nn, .string S] 23)).ownsRow w.heap.size 23 3 u3 ((l.take k).map cutC).length (rowV ((l.take k).map cutC)) := World.ownsRow.alloc (World.ownsRow.alloc HO.out _) _
          have hln : ((l.take k).map cutC).length = k := by rw [List.length_map, List.length_take, HN.out]; omega
          have HB1 := Lib.hid hb1; have HW1 := Lib.hid hnew; have HO1 := Lib.hid hown1; have HC := Lib.hid hcc; have HL := Lib.hid hln
          clear hb1 hnew hown1 hcc hln
          go_wp2_with (at_builtin; refine wpList_append_lay rfl (.tmp 28) (.tmp 30) _ rfl w.heap.size 23 i0 _ 3 32 under_cells hi hz0 hz1 hz2 rfl (by omega) _ _ _ rfl HO1.out _ (some ⟨wr.heap.size + 1, 0, none⟩) 1 1 (rowV [(u, nn, S)]) rfl rfl HW1.out (rowV_one _) (by rw [HL.out]; unfold maxLen; omega) (by rw [HL.out]; omega) HB1.out.size ?_; intro v2 w2 hown2 hg2)
          have HO2 := Lib.hid hown2
          have HB2 := Lib.hid (own_grown HO1.out HB1.out HB1.out.size (Nat.le_refl _) hg2)
          clear hown2 hg2
          go_wp2_with fail
          go_roundw
          case rel =>
            refine ⟨k + 1, by omega, by omega, by go_num, ?_, HB2.out⟩
            unfold OwnC
            rw [HCT.out, HC.out, rowV_app, List.length_append]
            exact HO2.out
          case measure => simp [RowKit.intOf]; omega
        · have hsi : ¬ (S.size : Int) ≤ 1100 := by omega
          have hsj : (1100 : Int) < S.size := by omega
          have hm1 : min (S.size : Int) 1100 = 1100 := by omega
          have hsk : 1100 ≤ S.size := by omega
          have hsl : (1100 : Int) ≤ S.size := by omega
          have hcc : cutC (u, nn, S) = (u, nn, (S.extract 0 1100)) := by
            show (u, nn, S.extract 0 (min S.size 1100)) = _
            rw [show min S.size 1100 = 1100 by omega]
          have hb1 : Below w.heap.size w ((wr.alloc (.cells #[.bool u, .int .i64 nn, .string (S.extract 0 1100)] 23)).alloc (.cells #[.bool u, .int .i64 nn, .string (S.extract 0 1100)] 23)) := (HB.out.alloc HB.out.size _).alloc (by have := HB.out.size; simp; omega) _
          have hnew : Lay ((wr.alloc (.cells #[.bool u, .int .i64 nn, .string (S.extract 0 1100)] 23)).alloc (.cells #[.bool u, .int .i64 nn, .string (S.extract 0 1100)] 23)) ((wr.alloc (.cells #[.bool u, .int .i64 nn, .string (S.extract 0 1100)] 23)).alloc (.cells #[.bool u, .int .i64 nn, .string (S.extract 0 1100)] 23)).heap.size (some ⟨wr.heap.size + 1, 0, none⟩) (rowV [(u, nn, (S.extract 0 1100))]) := by
            have := lay_new (wr.alloc (.cells #[.bool u, .int .i64 nn, .string (S.extract 0 1100)] 23)) [.bool u, .int .i64 nn, .string (S.extract 0 1100)] 23
            rw [show (wr.alloc (.cells #[.bool u, .int .i64 nn, .string (S.extract 0 1100)] 23)).heap.size = wr.heap.size + 1 by simp] at this
            exact this
          have hown1 : ((wr.alloc (.cells #[.bool u, .int .i64 nn, .string (S.extract 0 1100)] 23)).alloc (.cells #[.bool u, .int .i64 nn, .string (S.extract 0 1100)] 23)).ownsRow w.heap.size 23 3 u3 ((l.take k).map cutC).length (rowV ((l.take k).map cutC)) := World.ownsRow.alloc (World.ownsRow.alloc HO.out _) _
          have hln : ((l.take k).map cutC).length = k := by rw [List.length_map, List.length_take, HN.out]; omega
          have HB1 := Lib.hid hb1; have HW1 := Lib.hid hnew; have HO1 := Lib.hid hown1; have HC := Lib.hid hcc; have HL := Lib.hid hln
          clear hb1 hnew hown1 hcc hln
          go_wp2_with (at_builtin; refine wpList_append_lay rfl (.tmp 28) (.tmp 30) _ rfl w.heap.size 23 i0 _ 3 32 under_cells hi hz0 hz1 hz2 rfl (by omega) _ _ _ rfl HO1.out _ (some ⟨wr.heap.size + 1, 0, none⟩) 1 1 (rowV [(u, nn, (S.extract 0 1100))]) rfl rfl HW1.out (rowV_one _) (by rw [HL.out]; unfold maxLen; omega) (by rw [HL.out]; omega) HB1.out.size ?_; intro v2 w2 hown2 hg2)
          have HO2 := Lib.hid hown2
          have HB2 := Lib.hid (own_grown HO1.out HB1.out HB1.out.size (Nat.le_refl _) hg2)
          clear hown2 hg2
          go_wp2_with fail
          go_roundw
          case rel =>
            refine ⟨k + 1, by omega, by omega, by go_num, ?_, HB2.out⟩
            unfold OwnC
            rw [HCT.out, HC.out, rowV_app, List.length_append]
            exact HO2.out
          case measure => simp [RowKit.intOf]; omega
      · have hk4 : ¬ (k : Int) < 40 := by omega
        have hkm : k = 40 := by omega
        rw [hkm] at hown
        have HO := Lib.hid hown; have HB := Lib.hid hb
        clear hown hb
        go_wp2_with fail
        go_ret
        exact ⟨_, rfl, HO.out, HB.out⟩
    · have hki : ¬ (k : Int) < n := by omega
      have hkm : (l.take k).map cutC = cutR l := by unfold cutR; rw [List.take_of_length_le (by rw [HN.out]; omega), List.take_of_length_le (by rw [HN.out]; omega)]
      rw [hkm] at hown
      have HO := Lib.hid hown; have HB := Lib.hid hb
      clear hown hb hkm
      go_wp2_with fail
      go_ret
      exact ⟨_, rfl, HO.out, HB.out⟩
end Go.Proofs.YtcdmiiaamajfoaaGreatDoor
namespace Go.Ms
theorem rIn_drop {ps : List Int} {k : Nat} {p : Int} {n : Nat} (h : ps[k]? = some p) : rIn (ps.drop k) n = (if 0 ≤ p ∧ p < n then rIn (ps.drop (k + 1)) n else false) := by
  obtain ⟨h1, rfl⟩ := List.getElem?_eq_some_iff.1 h
  rw [List.drop_eq_getElem_cons h1]
  unfold rIn
  simp only [List.all_cons]
  by_cases hp : 0 ≤ ps[k] ∧ ps[k] < n
  · rw [if_pos hp]; simp [hp.1, hp.2]
  · rw [if_neg hp]
    by_cases h0 : 0 ≤ ps[k]
    · have : ¬ ps[k] < n := fun h => hp ⟨h0, h⟩
      simp [this]
    · simp [h0]
/-- Numbers of a row fit 64 bits, texts are not long. -/
def CsOk (cs : List Cl) : Prop := ∀ c ∈ cs, c.2.2.size ≤ 1200 ∧ -9223372036854775808 ≤ c.2.1 ∧ c.2.1 ≤ 9223372036854775807
end Go.Ms
namespace Go.Proofs.YtcdmiiaamajfoaaGreatDoor
open Go.RowKit Go.Ms Go.Lib
set_option maxRecDepth 100000 in
theorem rin_any (w : World) (B : Option Addr) (n m capm : Nat) (ps : List Int) (hm' : m ≤ maxLen) (hm : m = ps.length) (hL : Lay w w.heap.size B (intV ps)) :
    Calls Tryz.prog 137 #[.slice B m capm, .int .i64 n] w fun e w' => e = .returned (.bool (rIn ps n)) ∧ Below w.heap.size w w' := by
  unfold maxLen at hm'
  have HL := Lib.hid hL; have HM := Lib.hid hm
  clear hL hm
  go_enter Tryz.func137, Tryz.ntmps137
  go_wp2_with fail
  go_loopw [5] (fun id wr => ∃ k : Nat, k ≤ m ∧ id = .int .i64 k ∧ Below w.heap.size w wr ∧ rIn ps n = rIn (ps.drop k) n) (fun id _ => m - (RowKit.intOf id).toNat)
  case atStart => exact ⟨0, by omega, rfl, Below.refl _ _, rfl⟩
  case round =>
    obtain ⟨k, hk, rfl, hb, hr⟩ := hrel
    have HR := Lib.hid hr
    clear hr
    by_cases hlk : k < m
    · have hki : (k : Int) < m := by omega
      obtain ⟨p, hp⟩ : ∃ c, ps[k]? = some c := ⟨_, List.getElem?_eq_getElem (by rw [← HM.out]; exact hlk)⟩
      obtain ⟨g, o, rfl, hg, h1⟩ := HL.out.num hp
      have g1 := (hb.cell hg).trans h1
      have hd := rIn_drop (n := n) hp
      have HB := Lib.hid hb; have HD := Lib.hid hd
      clear hb hp h1 hd
      by_cases h0 : p < 0
      · have hf : rIn ps n = false := by rw [HR.out, HD.out, if_neg (by omega)]
        have HF := Lib.hid hf
        clear hf
        go_wp2_with fail
        go_ret
        exact ⟨by rw [HF.out]; rfl, HB.out⟩
      · by_cases h2 : (n : Int) ≤ p
        · have hf : rIn ps n = false := by rw [HR.out, HD.out, if_neg (by omega)]
          have HF := Lib.hid hf
          clear hf
          go_wp2_with fail
          go_ret
          exact ⟨by rw [HF.out]; rfl, HB.out⟩
        · have hf : rIn ps n = rIn (ps.drop (k + 1)) n := by rw [HR.out, HD.out, if_pos (by omega)]
          have HF := Lib.hid hf
          clear hf
          go_wp2_with fail
          go_roundw
          case rel => exact ⟨k + 1, by omega, by go_num, HB.out, HF.out⟩
          case measure => simp [RowKit.intOf]; omega
    · have hki : ¬ (k : Int) < m := by omega
      have hkm : k = m := by omega
      have h0 : rIn ps n = true := by rw [HR.out, hkm, HM.out, List.drop_length]; rfl
      have H0 := Lib.hid h0
      have HB := Lib.hid hb
      clear h0 hb hkm
      go_wp2_with fail
      go_ret
      exact ⟨by rw [H0.out]; rfl, HB.out⟩
set_option maxRecDepth 100000 in
set_option maxHeartbeats 1000000 in
theorem rrowcheck_any (w : World) (A B : Option Addr) (n cap m capm : Nat) (ts : List Ty) (xs : List Value) (cs : List Cl) (hok : CsOk cs) (hn' : n ≤ maxLen) (hm' : m ≤ maxLen) (hn : n = ts.length) (hm : m = cs.length) (hC : Cols w w.heap.size A ts xs) (hL : Lay w w.heap.size B (rowV cs)) :
    Calls Tryz.prog 66 #[.slice A n cap, .slice B m capm] w fun e w' => e = .returned (.int .i64 (rCheck ts cs)) ∧ Below w.heap.size w w' := by
  unfold maxLen at hn' hm'
  by_cases hnm : n = m
  · have hr : rCheck ts cs = rCheckL ts cs := by unfold rCheck; rw [if_pos (by omega)]
    rw [hr]
    subst hnm
    have HC := Lib.hid hC; have HL := Lib.hid hL; have HN := Lib.hid hn; have HM := Lib.hid hm; have HO := Lib.hid hok
    clear hC hL hn hm hok hr
    go_enter Tryz.func66, Tryz.ntmps66
    go_wp2_with fail
    go_loopw [5] (fun id wr => ∃ k : Nat, k ≤ n ∧ id = .int .i64 k ∧ Below w.heap.size w wr ∧ rCheckL ts cs = rCheckL (ts.drop k) (cs.drop k)) (fun id _ => n - (RowKit.intOf id).toNat)
    case atStart => exact ⟨0, by omega, rfl, Below.refl _ _, rfl⟩
    case round =>
      obtain ⟨k, hk, rfl, hb, hr⟩ := hrel
      have HR := Lib.hid hr
      clear hr
      by_cases hlk : k < n
      · have hki : (k : Int) < n := by omega
        obtain ⟨t, ht⟩ : ∃ c, ts[k]? = some c := ⟨_, List.getElem?_eq_getElem (by rw [← HN.out]; omega)⟩
        obtain ⟨c, hc⟩ : ∃ c, cs[k]? = some c := ⟨_, List.getElem?_eq_getElem (by rw [← HM.out]; omega)⟩
        obtain ⟨g, o, rfl, hg, h1, h2⟩ := HC.out.ty ht
        obtain ⟨g', o', rfl, hg', h4, h5, h6⟩ := HL.out.cl hc
        have hdr := rCheckL_drop ht hc
        obtain ⟨z1, z2, z3⟩ := HO.out c (List.mem_of_getElem? hc)
        obtain ⟨u, nn, S⟩ := c
        obtain ⟨tk, tn⟩ := t
        simp only at h1 h2 h4 h5 h6 z1 z2 z3
        have hD : (wr.drew.cell? ⟨g, o + k * 7 + 2, none⟩ = some (.int .i64 tk) ∧ wr.drew.cell? ⟨g, o + k * 7 + 2 + 1, none⟩ = some (.bool tn) ∧ wr.drew.cell? ⟨g', o' + k * 3, none⟩ = some (.bool u) ∧ wr.drew.cell? ⟨g', o' + k * 3 + 1, none⟩ = some (.int .i64 nn) ∧ wr.drew.cell? ⟨g', o' + k * 3 + 2, none⟩ = some (.string S)) ∧ Below w.heap.size w wr.drew :=
          ⟨⟨(hb.cell hg).trans h1, (hb.cell hg).trans h2, (hb.cell hg').trans h4, (hb.cell hg').trans h5, (hb.cell hg').trans h6⟩, ms_drewN hb 1⟩
        have hcall : ∀ w', Calls Tryz.prog 87 #[.agg #[.int .i64 tk, .bool tn], .agg #[.bool u, .int .i64 nn, .string S]] w' fun e w'' => e = .returned (.int .i64 (cCheck (tk, tn) (u, nn, S))) ∧ Below w'.heap.size w' w'' := fun w' => rcheck_any tk tn u nn S w' (by omega) z2 z3
        have fin : ∀ wf, ((wf.cell? ⟨g, o + k * 7 + 2, none⟩ = some (.int .i64 tk) ∧ wf.cell? ⟨g, o + k * 7 + 2 + 1, none⟩ = some (.bool tn) ∧ wf.cell? ⟨g', o' + k * 3, none⟩ = some (.bool u) ∧ wf.cell? ⟨g', o' + k * 3 + 1, none⟩ = some (.int .i64 nn) ∧ wf.cell? ⟨g', o' + k * 3 + 2, none⟩ = some (.string S)) ∧ Below w.heap.size w wf) → Below w.heap.size w wf := fun _ h => h.2
        have HD := Lib.hid hD; have HP := Lib.hid hcall; have HX := Lib.hid hdr; have FIN := Lib.hid fin
        clear hD hcall hdr hc ht h1 h2 h4 h5 h6 hb fin z2 z3
        generalize cCheck (tk, tn) (u, nn, S) = C at *
        by_cases hz0 : C = 0
        · subst hz0
          go_wp2_with fail
          go_region_held3 (fun w' => (w'.cell? ⟨g, o + k * 7 + 2, none⟩ = some (.int .i64 tk) ∧ w'.cell? ⟨g, o + k * 7 + 2 + 1, none⟩ = some (.bool tn) ∧ w'.cell? ⟨g', o' + k * 3, none⟩ = some (.bool u) ∧ w'.cell? ⟨g', o' + k * 3 + 1, none⟩ = some (.int .i64 nn) ∧ w'.cell? ⟨g', o' + k * 3 + 2, none⟩ = some (.string S)) ∧ Below w.heap.size w w')
          (first
            | exact HD.out
            | exact ykeep5 HD.out bb
            | exact ykeep5 (by assumption) bb
            | (go_keep; done))
          (((with_reducible refine (HP.out _).mono ?_); rintro en w5 ⟨rfl, bb⟩))
          all_goals
            have HB5 := Lib.hid (FIN.out _ (by assumption))
            go_wp2_with fail
            go_roundw
            case rel => exact ⟨k + 1, by omega, by go_num, HB5.out, by rw [HR.out, HX.out]; simp⟩
            case measure => simp [RowKit.intOf]; omega
        · have hz1 : (C != 0) = true := by simpa using hz0
          have HZ1 := Lib.hid hz0
          clear hz0
          go_wp2_with fail
          go_region_held3 (fun w' => (w'.cell? ⟨g, o + k * 7 + 2, none⟩ = some (.int .i64 tk) ∧ w'.cell? ⟨g, o + k * 7 + 2 + 1, none⟩ = some (.bool tn) ∧ w'.cell? ⟨g', o' + k * 3, none⟩ = some (.bool u) ∧ w'.cell? ⟨g', o' + k * 3 + 1, none⟩ = some (.int .i64 nn) ∧ w'.cell? ⟨g', o' + k * 3 + 2, none⟩ = some (.string S)) ∧ Below w.heap.size w w')
          (first
            | exact HD.out
            | exact ykeep5 HD.out bb
            | exact ykeep5 (by assumption) bb
            | (go_keep; done))
          (((with_reducible refine (HP.out _).mono ?_); rintro en w5 ⟨rfl, bb⟩))
          all_goals
            have HB5 := Lib.hid (FIN.out _ (by assumption))
            go_wp2_with fail
            go_ret
            exact ⟨by rw [HR.out, HX.out, if_neg HZ1.out]; rfl, HB5.out⟩
      · have hki : ¬ (k : Int) < n := by omega
        have hkn : k = n := by omega
        have h0 : rCheckL ts cs = 0 := by
          rw [HR.out, hkn, HM.out, List.drop_length]
          cases List.drop cs.length ts <;> rfl
        have H0 := Lib.hid h0
        have HB := Lib.hid hb
        clear h0 hb hkn
        go_wp2_with fail
        go_ret
        exact ⟨by rw [H0.out]; rfl, HB.out⟩
  · have hr : rCheck ts cs = 100 := by unfold rCheck; rw [if_neg (by omega)]
    rw [hr]
    have hne : ((m : Int) != n) = true := by simp; omega
    have hne2 : (m != n) = true := by simp; omega
    clear hr hm hn hnm hC hL hok
    go_enter Tryz.func66, Tryz.ntmps66
    go_wp2_with fail
    go_ret
    exact ⟨rfl, Below.refl _ _⟩
set_option maxRecDepth 100000 in
set_option maxHeartbeats 1000000 in
theorem rrowcompare_any (w : World) (A B : Option Addr) (n cap m capm : Nat) (xs ys : List Cl) (hn' : n ≤ maxLen) (hm' : m ≤ maxLen) (hn : n = xs.length) (hm : m = ys.length) (hA : Lay w w.heap.size A (rowV xs)) (hB : Lay w w.heap.size B (rowV ys)) :
    Calls Tryz.prog 71 #[.slice A n cap, .slice B m capm] w fun e w' => e = .returned (.int .i64 (rCmp xs ys)) ∧ Below w.heap.size w w' := by
  unfold maxLen at hn' hm'
  obtain ⟨l, hl⟩ : ∃ l, l = min n m := ⟨_, rfl⟩
  have HA := Lib.hid hA; have HB := Lib.hid hB; have HL := Lib.hid hl; have HN := Lib.hid hn; have HM := Lib.hid hm
  clear hA hB hn hm hl
  have hl1 : l ≤ n := by have := HL.out; omega
  have hl2 : l ≤ m := by have := HL.out; omega
  rcases Int.lt_or_le (m : Int) n with hmn | hmn
  all_goals
    go_enter Tryz.func71, Tryz.ntmps71
    go_wp2_with fail
    go_loopw [5] (fun id wr => ∃ k : Nat, k ≤ l ∧ id = .int .i64 k ∧ Below w.heap.size w wr ∧ rCmp xs ys = rCmp (xs.drop k) (ys.drop k)) (fun id _ => l - (RowKit.intOf id).toNat)
    case atStart => exact ⟨0, by omega, rfl, Below.refl _ _, rfl⟩
    case round =>
      obtain ⟨k, hk, rfl, hb, hr⟩ := hrel
      have HR := Lib.hid hr
      clear hr
      by_cases hlk : k < l
      · have hki : (k : Int) < l := by omega
        obtain ⟨c, hc⟩ : ∃ c, xs[k]? = some c := ⟨_, List.getElem?_eq_getElem (by rw [← HN.out]; omega)⟩
        obtain ⟨d, hd⟩ : ∃ c, ys[k]? = some c := ⟨_, List.getElem?_eq_getElem (by rw [← HM.out]; omega)⟩
        obtain ⟨g, o, rfl, hg, h1, h2, h3⟩ := HA.out.cl hc
        obtain ⟨g', o', rfl, hg', h4, h5, h6⟩ := HB.out.cl hd
        have hdr := rCmp_drop hc hd
        have hC : (wr.drew.cell? ⟨g, o + k * 3, none⟩ = some (.bool c.1) ∧ wr.drew.cell? ⟨g, o + k * 3 + 1, none⟩ = some (.int .i64 c.2.1) ∧ wr.drew.cell? ⟨g, o + k * 3 + 2, none⟩ = some (.string c.2.2) ∧ wr.drew.cell? ⟨g', o' + k * 3, none⟩ = some (.bool d.1) ∧ wr.drew.cell? ⟨g', o' + k * 3 + 1, none⟩ = some (.int .i64 d.2.1) ∧ wr.drew.cell? ⟨g', o' + k * 3 + 2, none⟩ = some (.string d.2.2)) ∧ Below w.heap.size w wr.drew :=
          ⟨⟨(hb.cell hg).trans h1, (hb.cell hg).trans h2, (hb.cell hg).trans h3, (hb.cell hg').trans h4, (hb.cell hg').trans h5, (hb.cell hg').trans h6⟩, ms_drewN hb 1⟩
        obtain ⟨u, nn, S⟩ := c
        obtain ⟨v, mm, T⟩ := d
        simp only at hC
        have hcall : ∀ w', Calls Tryz.prog 91 #[.agg #[.bool u, .int .i64 nn, .string S], .agg #[.bool v, .int .i64 mm, .string T]] w' fun e w'' => e = .returned (.int .i64 (cCmp (u, nn, S) (v, mm, T))) ∧ Below w'.heap.size w' w'' := fun w' => rcompare_any u v nn mm S T w'
        have HD := Lib.hid hC; have HP := Lib.hid hcall; have HX := Lib.hid hdr
        clear hC hcall hdr hc hd h1 h2 h3 h4 h5 h6 hb
        generalize cCmp (u, nn, S) (v, mm, T) = C at *
        have hkn : (k : Int) < n := by omega
        have hkm : (k : Int) < m := by omega
        have fin : ∀ wf, ((wf.cell? ⟨g, o + k * 3, none⟩ = some (.bool u) ∧ wf.cell? ⟨g, o + k * 3 + 1, none⟩ = some (.int .i64 nn) ∧ wf.cell? ⟨g, o + k * 3 + 2, none⟩ = some (.string S) ∧ wf.cell? ⟨g', o' + k * 3, none⟩ = some (.bool v) ∧ wf.cell? ⟨g', o' + k * 3 + 1, none⟩ = some (.int .i64 mm) ∧ wf.cell? ⟨g', o' + k * 3 + 2, none⟩ = some (.string T)) ∧ Below w.heap.size w wf) → Below w.heap.size w wf := fun _ h => h.2
        have FIN := Lib.hid fin
        clear fin
        by_cases hz0 : C = 0
        · subst hz0
          go_wp2_with fail
          go_region_held3 (fun w' => (w'.cell? ⟨g, o + k * 3, none⟩ = some (.bool u) ∧ w'.cell? ⟨g, o + k * 3 + 1, none⟩ = some (.int .i64 nn) ∧ w'.cell? ⟨g, o + k * 3 + 2, none⟩ = some (.string S) ∧ w'.cell? ⟨g', o' + k * 3, none⟩ = some (.bool v) ∧ w'.cell? ⟨g', o' + k * 3 + 1, none⟩ = some (.int .i64 mm) ∧ w'.cell? ⟨g', o' + k * 3 + 2, none⟩ = some (.string T)) ∧ Below w.heap.size w w')
            (first
              | exact HD.out
              | exact ykeep6 HD.out bb
              | exact ykeep6 (by assumption) bb
              | (go_keep; done))
            (((with_reducible refine (HP.out _).mono ?_); rintro en w5 ⟨rfl, bb⟩))
          all_goals
            have hb5 := FIN.out _ (by assumption)
            have HB5 := Lib.hid hb5
            clear hb5
            go_wp2_with fail
            go_roundw
            case rel => exact ⟨k + 1, by omega, by go_num, HB5.out, by rw [HR.out, HX.out]; simp⟩
            case measure => simp [RowKit.intOf]; omega
        · have hz1 : (C != 0) = true := by simpa using hz0
          have HZ1 := Lib.hid hz0
          clear hz0
          go_wp2_with fail
          go_region_held3 (fun w' => (w'.cell? ⟨g, o + k * 3, none⟩ = some (.bool u) ∧ w'.cell? ⟨g, o + k * 3 + 1, none⟩ = some (.int .i64 nn) ∧ w'.cell? ⟨g, o + k * 3 + 2, none⟩ = some (.string S) ∧ w'.cell? ⟨g', o' + k * 3, none⟩ = some (.bool v) ∧ w'.cell? ⟨g', o' + k * 3 + 1, none⟩ = some (.int .i64 mm) ∧ w'.cell? ⟨g', o' + k * 3 + 2, none⟩ = some (.string T)) ∧ Below w.heap.size w w')
            (first
              | exact HD.out
              | exact ykeep6 HD.out bb
              | exact ykeep6 (by assumption) bb
              | (go_keep; done))
            (((with_reducible refine (HP.out _).mono ?_); rintro en w5 ⟨rfl, bb⟩))
          all_goals
            have hb5 := FIN.out _ (by assumption)
            have HB5 := Lib.hid hb5
            clear hb5
            go_wp2_with fail
            go_ret
            exact ⟨by rw [HR.out, HX.out, if_neg HZ1.out]; rfl, HB5.out⟩
      · try have hki1 : ¬ (k : Int) < m := by have := HL.out; omega
        try have hki2 : ¬ (k : Int) < n := by have := HL.out; omega
        have hkl : k = l := by omega
        have h0 : rCmp xs ys = cmpI n m := by
          have h1 := HL.out; have h2 := HN.out; have h3 := HM.out
          rw [HR.out, hkl, rCmp_end (by omega), ← h2, ← h3]
          unfold cmpI; simp only [Int.ofNat_lt]
        have H0 := Lib.hid h0
        have HB := Lib.hid hb
        clear h0 hb hkl
        go_wp2_with fail
        all_goals
          go_ret
          refine ⟨?_, HB.out⟩
          rw [H0.out]
          unfold cmpI
          first
          | (rw [if_pos (by omega)]; rfl)
          | (rw [if_neg (by omega), if_pos (by omega)]; rfl)
          | (rw [if_neg (by omega), if_neg (by omega)]; rfl)
set_option maxRecDepth 100000 in
set_option maxHeartbeats 1000000 in
theorem rrowpick_any (w : World) (A B : Option Addr) (n cap m capm : Nat) (cs : List Cl) (ps : List Int) (hn' : n ≤ 100000) (hm' : m ≤ 100000) (hn : n = cs.length) (hm : m = ps.length) (hA : Lay w w.heap.size A (rowV cs)) (hL : Lay w w.heap.size B (intV ps)) :
    Calls Tryz.prog 64 #[.slice A n cap, .slice B m capm] w fun e w' => ∃ v, e = .returned (.tuple #[v, .int .i64 (rInE ps cs.length)]) ∧ OwnC w' w.heap.size 23 v (rPick cs ps) ∧ Below w.heap.size w w' := by
  obtain ⟨i0, hi, hz0, hz1, hz2⟩ := info_parts cell_info
  have hw := rin_any w B n m capm ps (by unfold maxLen; omega) hm hL
  by_cases hin : rIn ps n = true
  · have h1 : rInE ps n = 0 := by unfold rInE; rw [if_pos hin]
    have h2 : rPick cs ps = rPickL cs ps := by unfold rPick; rw [← hn, if_pos hin]
    rw [← hn, h1, h2]
    rw [hin] at hw
    have HW := Lib.hid hw; have HA := Lib.hid hA; have HL := Lib.hid hL; have HN := Lib.hid hn; have HM := Lib.hid hm; have HI := Lib.hid hin
    clear hw hA hL hn hm h1 h2 hin
    go_enter Tryz.func64, Tryz.ntmps64
    go_wp2_with fail
    refine HW.out.mono ?_
    rintro en w1 ⟨rfl, b1⟩
    have HB1 := Lib.hid b1
    clear b1
    go_wp2_with fail
    go_loopw [6, 7] (fun v id wr => ∃ k : Nat, k ≤ m ∧ id = .int .i64 k ∧ OwnC wr w.heap.size 23 v (rPickL cs (ps.take k)) ∧ Below w.heap.size w wr) (fun _ id _ => m - (RowKit.intOf id).toNat)
    case atStart => exact ⟨0, by omega, rfl, World.ownsRow_nil _ _ _ _, HB1.out⟩
    case round =>
      obtain ⟨k, hk, rfl, hown, hb⟩ := hrel
      by_cases hlk : k < m
      · have hki : (k : Int) < m := by omega
        obtain ⟨p, hp⟩ : ∃ c, ps[k]? = some c := ⟨_, List.getElem?_eq_getElem (by rw [← HM.out]; exact hlk)⟩
        obtain ⟨p0, p1⟩ := rIn_at HI.out hp
        obtain ⟨q, rfl⟩ : ∃ q : Nat, p = q := ⟨p.toNat, by omega⟩
        obtain ⟨g, o, rfl, hg, h1⟩ := HL.out.num hp
        obtain ⟨c, hc⟩ : ∃ c, cs[q]? = some c := ⟨_, List.getElem?_eq_getElem (by rw [← HN.out]; omega)⟩
        obtain ⟨g', o', rfl, hg', h4, h5, h6⟩ := HA.out.cl hc
        have g1 := (hb.cell hg).trans h1
        have g4 := (hb.cell hg').trans h4
        have g5 := (hb.cell hg').trans h5
        have g6 := (hb.cell hg').trans h6
        have hpk := rPickL_take (c := c) hp hc
        have hlen : (rPickL cs (ps.take k)).length = k := by unfold rPickL; rw [List.length_map, List.length_take]; have := HM.out; omega
        obtain ⟨u, nn, S⟩ := c
        simp only at g4 g5 g6
        have HPK := Lib.hid hpk; have HO := Lib.hid hown; have HB := Lib.hid hb; have HLen := Lib.hid hlen
        clear hpk hown hb hp hc h1 h4 h5 h6 hlen
        have hnew : Lay (wr.alloc (.cells #[.bool u, .int .i64 nn, .string S] 23)) (wr.alloc (.cells #[.bool u, .int .i64 nn, .string S] 23)).heap.size (some ⟨wr.heap.size, 0, none⟩) (rowV [(u, nn, S)]) := lay_new wr [.bool u, .int .i64 nn, .string S] 23
        have hown1 := World.ownsRow.alloc HO.out (.cells #[.bool u, .int .i64 nn, .string S] 23)
        have hb1 := HB.out.alloc HB.out.size (.cells #[.bool u, .int .i64 nn, .string S] 23)
        have HW1 := Lib.hid hnew; have HO1 := Lib.hid hown1; have HB1 := Lib.hid hb1
        clear hnew hown1 hb1
        go_wp2_with (at_builtin; refine wpList_append_lay rfl (.tmp 19) (.tmp 27) _ rfl w.heap.size 23 i0 _ 3 32 under_cells hi hz0 hz1 hz2 rfl (by omega) _ _ _ rfl HO1.out _ (some ⟨wr.heap.size, 0, none⟩) 1 1 (rowV [(u, nn, S)]) rfl rfl HW1.out (rowV_one _) (by rw [HLen.out]; unfold maxLen; omega) (by rw [HLen.out]; omega) HB1.out.size ?_; intro v2 w2 hown2 hg2)
        have HO2 := Lib.hid hown2
        have HB2 := Lib.hid (own_grown HO1.out HB1.out HB1.out.size (Nat.le_refl _) hg2)
        clear hown2 hg2
        go_wp2_with fail
        go_roundw
        case rel =>
          refine ⟨k + 1, by omega, by go_num, ?_, HB2.out⟩
          unfold OwnC
          rw [HPK.out, rowV_app, List.length_append]
          exact HO2.out
        case measure => simp [RowKit.intOf]; omega
      · have hki : ¬ (k : Int) < m := by omega
        have hkm : k = m := by omega
        rw [hkm, HM.out, List.take_length] at hown
        have HO := Lib.hid hown; have HB := Lib.hid hb
        clear hown hb hkm
        go_wp2_with fail
        go_ret2
        exact ⟨_, rfl, HO.out, HB.out⟩
  · have h1 : rInE ps n = 6 := by unfold rInE; rw [if_neg hin]
    have h2 : rPick cs ps = [] := by unfold rPick; rw [← hn, if_neg hin]
    rw [← hn, h1, h2]
    rw [show rIn ps n = false by simpa using hin] at hw
    have HW := Lib.hid hw
    clear hw hA hL hn hm h1 h2 hin
    go_enter Tryz.func64, Tryz.ntmps64
    go_wp2_with fail
    refine HW.out.mono ?_
    rintro en w1 ⟨rfl, b1⟩
    have HB1 := Lib.hid b1
    clear b1
    go_wp2_with fail
    go_ret2
    exact ⟨_, rfl, World.ownsRow_nil _ _ _ _, HB1.out⟩
end Go.Proofs.YtcdmiiaamajfoaaGreatDoor
namespace Go.Proofs.YtcdmiiaamajfoaaGreatDoor
open Go.RowKit Go.Ms Go.Lib
set_option maxRecDepth 100000 in
set_option maxHeartbeats 2000000 in
theorem rrowkey_any (w : World) (A B D : Option Addr) (n cap l capl m capm : Nat) (ts : List Ty) (xs : List Value) (cs : List Cl) (ps : List Int) (hok : CsOk cs) (hn' : n ≤ maxLen) (hl' : l ≤ 300) (hm' : m ≤ maxLen) (hn : n = ts.length) (hl : l = ps.length) (hm : m = cs.length) (hC : Cols w w.heap.size A ts xs) (hP : Lay w w.heap.size B (intV ps)) (hL : Lay w w.heap.size D (rowV cs)) :
    Calls Tryz.prog 67 #[.slice A n cap, .slice B l capl, .slice D m capm] w fun e w' => e = .returned (.tuple #[.string ⟨(rKey ts cs ps).toArray⟩, .int .i64 (rKeyE ts cs ps)]) ∧ Below w.heap.size w w' := by
  have hck := rrowcheck_any w A D n cap m capm ts xs cs hok hn' hm' hn hm hC hL
  have hwi := fun (w1 : World) (h : Below w.heap.size w w1) => rin_any w1 B m l capl ps (by unfold maxLen; omega) hl ((hP.below h).more h.size)
  unfold maxLen at hn' hm'
  by_cases hr : rCheck ts cs = 0
  · have hts : ts.length = cs.length := by
      by_cases h : ts.length = cs.length
      · exact h
      · unfold rCheck at hr; rw [if_neg h] at hr; omega
    have hrl : rCheckL ts cs = 0 := by unfold rCheck at hr; rw [if_pos hts] at hr; exact hr
    have he : rKeyE ts cs ps = rInE ps cs.length := by unfold rKeyE; rw [if_pos hr]
    rw [hr] at hck
    by_cases hin : rIn ps cs.length = true
    · have h1 : rInE ps cs.length = 0 := by unfold rInE; rw [if_pos hin]
      have h2 : rKey ts cs ps = rKeyL ts cs ps := by unfold rKey; rw [he, if_pos h1]
      rw [he, h1, h2]
      rw [show rIn ps m = true by rw [hm]; exact hin] at hwi
      have HCK := Lib.hid hck; have HW := Lib.hid hwi; have HI := Lib.hid hin; have HRL := Lib.hid hrl; have HTS := Lib.hid hts
      have HC := Lib.hid hC; have HP := Lib.hid hP; have HL := Lib.hid hL; have HN := Lib.hid hn; have HM := Lib.hid hm; have HLn := Lib.hid hl; have HO := Lib.hid hok
      clear hck hwi hin hrl hts he h1 h2 hr hC hP hL hn hm hl hok
      go_enter Tryz.func67, Tryz.ntmps67
      go_wp2_with fail
      refine HCK.out.mono ?_
      rintro en w1 ⟨rfl, b1⟩
      have HB1 := Lib.hid b1
      clear b1
      go_wp2_with fail
      refine (HW.out _ HB1.out).mono ?_
      rintro en w2 ⟨rfl, b2⟩
      have HB2 := Lib.hid (HB1.out.trans (b2.mono HB1.out.size))
      clear b2
      go_wp2_with fail
      go_loopw [9, 10] (fun v id wr => ∃ k : Nat, k ≤ l ∧ id = .int .i64 k ∧ Below w.heap.size w wr ∧ ∃ M : ByteArray, v = .string M ∧ M.data.toList = rKeyL ts cs (ps.take k) ∧ M.size ≤ 3000 * k) (fun _ id _ => l - (RowKit.intOf id).toNat)
      case atStart => exact ⟨0, by omega, rfl, HB2.out, ⟨#[]⟩, rfl, by simp [rKeyL], by show 0 ≤ _; omega⟩
      case round =>
        obtain ⟨k, hk, rfl, hb, M, rfl, hM, hMz⟩ := hrel
        by_cases hlk : k < l
        · have hki : (k : Int) < l := by omega
          obtain ⟨z, hp⟩ : ∃ c, ps[k]? = some c := ⟨_, List.getElem?_eq_getElem (by rw [← HLn.out]; exact hlk)⟩
          obtain ⟨p0, p1⟩ := rIn_at HI.out hp
          obtain ⟨q, rfl⟩ : ∃ q : Nat, z = q := ⟨z.toNat, by omega⟩
          obtain ⟨gp, op, rfl, hgp, h0⟩ := HP.out.num hp
          obtain ⟨c, hc⟩ : ∃ c, cs[q]? = some c := ⟨_, List.getElem?_eq_getElem (by omega)⟩
          obtain ⟨t, ht⟩ : ∃ c, ts[q]? = some c := ⟨_, List.getElem?_eq_getElem (by rw [HTS.out]; omega)⟩
          obtain ⟨g, o, rfl, hg, h1, h2⟩ := HC.out.ty ht
          obtain ⟨g', o', rfl, hg', h4, h5, h6⟩ := HL.out.cl hc
          have hqm : (q : Int) < m := by rw [HM.out]; omega
          have hqn : (q : Int) < n := by rw [HN.out, HTS.out]; omega
          have hq0 : (0 : Int) ≤ q := by omega
          have hstep := rKeyL_take (t := t) (c := c) hp ht hc
          have hck := rCheckL_at HRL.out ht hc
          have hbl := ybits_len t c hck
          obtain ⟨z1, z2, z3⟩ := HO.out c (List.mem_of_getElem? hc)
          obtain ⟨u, nn, S⟩ := c
          obtain ⟨tk, tn⟩ := t
          simp only at h1 h2 h4 h5 h6 z1 z2 z3
          have hcall : ∀ w', Calls Tryz.prog 93 #[.agg #[.int .i64 tk, .bool tn], .agg #[.bool u, .int .i64 nn, .string S]] w' fun e w'' => e = .returned (.tuple #[.string ⟨(cBits (tk, tn) (u, nn, S)).toArray⟩, .int .i64 0]) ∧ Below w'.heap.size w' w'' := fun w' => by
            have := rBits_any tk tn u nn S w' (by omega) z2 z3
            rw [show kCheck tk tn u nn S.data.toList = 0 from hck] at this
            exact this
          have hD : (wr.drew.cell? ⟨gp, op + k, none⟩ = some (.int .i64 q) ∧ wr.drew.cell? ⟨g, o + q * 7 + 2, none⟩ = some (.int .i64 tk) ∧ wr.drew.cell? ⟨g, o + q * 7 + 2 + 1, none⟩ = some (.bool tn) ∧ wr.drew.cell? ⟨g', o' + q * 3, none⟩ = some (.bool u) ∧ wr.drew.cell? ⟨g', o' + q * 3 + 1, none⟩ = some (.int .i64 nn) ∧ wr.drew.cell? ⟨g', o' + q * 3 + 2, none⟩ = some (.string S)) ∧ Below w.heap.size w wr.drew :=
            ⟨⟨(hb.cell hgp).trans h0, (hb.cell hg).trans h1, (hb.cell hg).trans h2, (hb.cell hg').trans h4, (hb.cell hg').trans h5, (hb.cell hg').trans h6⟩, ms_drewN hb 1⟩
          generalize cBits (tk, tn) (u, nn, S) = R at *
          obtain ⟨RS, hRS⟩ : ∃ RS : ByteArray, (⟨R.toArray⟩ : ByteArray) = RS := ⟨_, rfl⟩
          have hRl : RS.data.toList = R := by rw [← hRS]
          have hRz : RS.size = R.length := by rw [← hRS]; exact List.size_toArray
          rw [hRS] at hcall
          have hap : (M ++ RS).data.toList = rKeyL ts cs (ps.take (k + 1)) := by rw [hstep, ← hM, ← hRl]; simp
          have hapz : (M ++ RS).size ≤ 3000 * (k + 1) := by rw [ByteArray.size_append]; omega
          have hq1 : ¬ 9223372036854775807 < M.size + RS.size := by omega
          have hD' : ∀ wf, ((wf.cell? ⟨gp, op + k, none⟩ = some (.int .i64 q) ∧ wf.cell? ⟨g, o + q * 7 + 2, none⟩ = some (.int .i64 tk) ∧ wf.cell? ⟨g, o + q * 7 + 2 + 1, none⟩ = some (.bool tn) ∧ wf.cell? ⟨g', o' + q * 3, none⟩ = some (.bool u) ∧ wf.cell? ⟨g', o' + q * 3 + 1, none⟩ = some (.int .i64 nn) ∧ wf.cell? ⟨g', o' + q * 3 + 2, none⟩ = some (.string S)) ∧ Below w.heap.size w wf) → Below w.heap.size w wf := fun _ h => h.2
          have HD := Lib.hid hD; have HQ := Lib.hid hcall; have HAP := Lib.hid hap; have HAZ := Lib.hid hapz; have FIN := Lib.hid hD'
          clear hD hcall hap hapz hD' hRS hRl hRz hstep hck hbl hp hc ht h0 h1 h2 h4 h5 h6 hb hM hMz z1 z2 z3
          go_wp2_with fail
          go_region_held3 (fun w' => (w'.cell? ⟨gp, op + k, none⟩ = some (.int .i64 q) ∧ w'.cell? ⟨g, o + q * 7 + 2, none⟩ = some (.int .i64 tk) ∧ w'.cell? ⟨g, o + q * 7 + 2 + 1, none⟩ = some (.bool tn) ∧ w'.cell? ⟨g', o' + q * 3, none⟩ = some (.bool u) ∧ w'.cell? ⟨g', o' + q * 3 + 1, none⟩ = some (.int .i64 nn) ∧ w'.cell? ⟨g', o' + q * 3 + 2, none⟩ = some (.string S)) ∧ Below w.heap.size w w')
            (first
              | exact HD.out
              | exact ykeep6 HD.out bb
              | exact ykeep6 (by assumption) bb
              | (go_keep; done))
            (((with_reducible refine (HQ.out _).mono ?_); rintro en w5 ⟨rfl, bb⟩))
          all_goals
            have HB5 := Lib.hid (FIN.out _ (by assumption))
            go_wp2_with fail
            go_roundw
            case rel => exact ⟨k + 1, by omega, by go_num, HB5.out, _, rfl, HAP.out, HAZ.out⟩
            case measure => simp [RowKit.intOf]; omega
        · have hki : ¬ (k : Int) < l := by omega
          have hkm : k = l := by omega
          rw [hkm, HLn.out, List.take_length] at hM
          have HMM := Lib.hid (ba_ext hM); have HB := Lib.hid hb
          clear hb hM hMz hkm
          go_wp2_with fail
          go_ret2
          exact ⟨by rw [HMM.out]; rfl, HB.out⟩
    · have h1 : rInE ps cs.length = 6 := by unfold rInE; rw [if_neg hin]
      have h2 : rKey ts cs ps = [] := by unfold rKey; rw [he, if_neg (by omega)]
      rw [he, h1, h2]
      rw [show rIn ps m = false by rw [hm]; simpa using hin] at hwi
      have HCK := Lib.hid hck; have HW := Lib.hid hwi
      clear hck hwi hin hrl hts he h1 h2 hr hC hP hL hn hm hl hok
      go_enter Tryz.func67, Tryz.ntmps67
      go_wp2_with fail
      refine HCK.out.mono ?_
      rintro en w1 ⟨rfl, b1⟩
      have HB1 := Lib.hid b1
      clear b1
      go_wp2_with fail
      refine (HW.out _ HB1.out).mono ?_
      rintro en w2 ⟨rfl, b2⟩
      have HB2 := Lib.hid (HB1.out.trans (b2.mono HB1.out.size))
      clear b2
      go_wp2_with fail
      go_ret2
      exact ⟨rfl, HB2.out⟩
  · have he : rKeyE ts cs ps = rCheck ts cs := by unfold rKeyE; rw [if_neg hr]
    have h2 : rKey ts cs ps = [] := by unfold rKey; rw [he, if_neg hr]
    rw [he, h2]
    generalize rCheck ts cs = E at *
    have hne2 : (E != 0) = true := by simpa using hr
    have HCK := Lib.hid hck
    clear hck hwi hr he h2 hC hP hL hn hm hl hok
    go_enter Tryz.func67, Tryz.ntmps67
    go_wp2_with fail
    refine HCK.out.mono ?_
    rintro en w1 ⟨rfl, b1⟩
    have HB1 := Lib.hid b1
    clear b1
    go_wp2_with fail
    go_ret2
    exact ⟨rfl, HB1.out⟩
end Go.Proofs.YtcdmiiaamajfoaaGreatDoor
namespace Go.Proofs.YtcdmiiaamajfoaaGreatDoor
open Go.RowKit Go.Ms Go.Lib
set_option maxRecDepth 100000 in
set_option maxHeartbeats 2000000 in
theorem rrowunkey_any (w : World) (A B : Option Addr) (n cap l capl : Nat) (ts : List Ty) (xs : List Value) (ps : List Int) (S : ByteArray) (hsz : S.size ≤ 100000) (hn' : n ≤ maxLen) (hl' : l ≤ 300) (hn : n = ts.length) (hl : l = ps.length) (hC : Cols w w.heap.size A ts xs) (hP : Lay w w.heap.size B (intV ps)) :
    Calls Tryz.prog 69 #[.slice A n cap, .slice B l capl, .string S] w fun e w' => ∃ v, e = .returned (.tuple #[v, .int .i64 (rUnE ts ps S.data.toList)]) ∧ OwnC w' w.heap.size 23 v (rUn ts ps S.data.toList) ∧ Below w.heap.size w w' := by
  obtain ⟨i0, hi, hz0, hz1, hz2⟩ := info_parts cell_info
  have hwi := rin_any w B n l capl ps (by unfold maxLen; omega) hl hP
  unfold maxLen at hn'
  by_cases hin : rIn ps ts.length = true
  · have he : rUnE ts ps S.data.toList = if (rUnA [] (rUnT ts ps) S.data.toList).2.2 = 0 then (if (rUnA [] (rUnT ts ps) S.data.toList).2.1 = [] then 0 else 30) else (rUnA [] (rUnT ts ps) S.data.toList).2.2 := by unfold rUnE; rw [if_pos hin]
    have hr : rUn ts ps S.data.toList = if rUnE ts ps S.data.toList = 0 then (rUnA [] (rUnT ts ps) S.data.toList).1 else [] := rfl
    have hi2 : rIn ps n = true := by rw [hn]; exact hin
    rw [hi2] at hwi
    have HW := Lib.hid hwi; have HI := Lib.hid hin; have HC := Lib.hid hC; have HP := Lib.hid hP; have HN := Lib.hid hn; have HLn := Lib.hid hl; have HE := Lib.hid he; have HR := Lib.hid hr
    clear hwi hin hi2 hC hP hn hl he hr
    go_enter Tryz.func69, Tryz.ntmps69
    go_wp2_with fail
    refine HW.out.mono ?_
    rintro en w1 ⟨rfl, b1⟩
    have HB1 := Lib.hid b1
    clear b1
    go_wp2_with fail
    go_loopw [2, 8, 9] (fun sv v id wr => ∃ k : Nat, k ≤ l ∧ id = .int .i64 k ∧ Below w.heap.size w wr ∧ ∃ S' acc, sv = .string S' ∧ OwnC wr w.heap.size 23 v acc ∧ acc.length = k ∧ S'.size ≤ 100000 ∧ rUnA [] (rUnT ts ps) S.data.toList = rUnA acc ((rUnT ts ps).drop k) S'.data.toList) (fun _ _ id _ => l - (RowKit.intOf id).toNat)
    case atStart => exact ⟨0, by omega, rfl, HB1.out, S, [], rfl, World.ownsRow_nil _ _ _ _, rfl, hsz, rfl⟩
    case round =>
      obtain ⟨k, hk, rfl, hb, S', acc, rfl, hown, hac, hsz', hra⟩ := hrel
      by_cases hlk : k < l
      · have hki : (k : Int) < l := by omega
        obtain ⟨z, hp⟩ : ∃ c, ps[k]? = some c := ⟨_, List.getElem?_eq_getElem (by rw [← HLn.out]; exact hlk)⟩
        obtain ⟨p0, p1⟩ := rIn_at HI.out hp
        obtain ⟨q, rfl⟩ : ∃ q : Nat, z = q := ⟨z.toNat, by omega⟩
        obtain ⟨gp, op, rfl, hgp, h0⟩ := HP.out.num hp
        obtain ⟨t, ht⟩ : ∃ c, ts[q]? = some c := ⟨_, List.getElem?_eq_getElem (by omega)⟩
        obtain ⟨g, o, rfl, hg, h1, h2⟩ := HC.out.ty ht
        have hqn : (q : Int) < n := by rw [HN.out]; omega
        have hq0 : (0 : Int) ≤ q := by omega
        have hstep := rUnA_drop (acc := acc) (s := S'.data.toList) (rUnT_at (t := t) hp ht)
        rw [← hra] at hstep
        have hdl := un_len t.1 t.2 S'.data.toList
        have hzz : S'.data.toList.length = S'.size := by simp
        have hex : (S'.extract (kUnD t.1 t.2 S'.data.toList).2.1 S'.size).data.toList = S'.data.toList.drop (kUnD t.1 t.2 S'.data.toList).2.1 := by
          rw [ext_list, List.take_of_length_le (by omega)]
        have hsz2 : (S'.extract (kUnD t.1 t.2 S'.data.toList).2.1 S'.size).size ≤ 100000 := by rw [ByteArray.size_extract]; omega
        rw [← hex] at hstep
        obtain ⟨tk, tn⟩ := t
        have hcall := fun w' => runbits_any tk tn S' w' hsz'
        simp only at h1 h2 hstep hdl hsz2
        generalize kUnD tk tn S'.data.toList = D at *
        obtain ⟨⟨u, nn, s⟩, d, x⟩ := D
        obtain ⟨R, hR⟩ : ∃ R : ByteArray, (⟨s.toArray⟩ : ByteArray) = R := ⟨_, rfl⟩
        have hv : unV ((u, nn, s), d, x) = .tuple #[.agg #[.bool u, .int .i64 nn, .string R], .int .i64 d, .int .i64 x] := by rw [← hR]; rfl
        have hun : unCl (u, nn, s) = (u, nn, R) := by rw [← hR]; rfl
        rw [hv] at hcall
        simp only at hstep hdl hsz2
        rw [hun] at hstep
        rw [hzz] at hdl
        have hdi : (d : Int) ≤ S'.size := by omega
        have g0 := (hb.cell hgp).trans h0
        have g1 := (hb.cell hg).trans h1
        have g2 := (hb.cell hg).trans h2
        have HQ := Lib.hid hcall; have HB := Lib.hid hb; have HT := Lib.hid hstep; have HAC := Lib.hid hac; have HO := Lib.hid hown; have HZ2 := Lib.hid hsz2
        clear hcall hb hstep hac hown hsz2 hex hzz hv hun hR hp ht h0 h1 h2 hra p1
        by_cases hx : x = 0
        · subst hx
          go_wp2_with fail
          refine (HQ.out _).mono ?_
          rintro en w5 ⟨rfl, bb⟩
          have hb5 : Below w.heap.size w ((w5.alloc (.cells #[.bool u, .int .i64 nn, .string R] 23)).alloc (.cells #[.bool u, .int .i64 nn, .string R] 23)) := ((HB.out.trans (bb.mono HB.out.size)).alloc (by have := HB.out.size; have := bb.size; omega) _).alloc (by have := HB.out.size; have := bb.size; simp; omega) _
          have hnew : Lay ((w5.alloc (.cells #[.bool u, .int .i64 nn, .string R] 23)).alloc (.cells #[.bool u, .int .i64 nn, .string R] 23)) ((w5.alloc (.cells #[.bool u, .int .i64 nn, .string R] 23)).alloc (.cells #[.bool u, .int .i64 nn, .string R] 23)).heap.size (some ⟨w5.heap.size + 1, 0, none⟩) (rowV [(u, nn, R)]) := by
            have := lay_new (w5.alloc (.cells #[.bool u, .int .i64 nn, .string R] 23)) [.bool u, .int .i64 nn, .string R] 23
            rw [show (w5.alloc (.cells #[.bool u, .int .i64 nn, .string R] 23)).heap.size = w5.heap.size + 1 by simp] at this
            exact this
          have hown1 := World.ownsRow.alloc (World.ownsRow.alloc (own_below HO.out bb) (.cells #[.bool u, .int .i64 nn, .string R] 23)) (.cells #[.bool u, .int .i64 nn, .string R] 23)
          have HB5 := Lib.hid hb5; have HW1 := Lib.hid hnew; have HO1 := Lib.hid hown1
          clear hb5 hnew hown1 bb
          go_wp2_with (at_builtin; refine wpList_append_lay rfl (.tmp 41) (.tmp 43) _ rfl w.heap.size 23 i0 _ 3 32 under_cells hi hz0 hz1 hz2 rfl (by omega) _ _ _ rfl HO1.out _ (some ⟨w5.heap.size + 1, 0, none⟩) 1 1 (rowV [(u, nn, R)]) rfl rfl HW1.out (rowV_one _) (by rw [HAC.out]; unfold maxLen; omega) (by rw [HAC.out]; omega) HB5.out.size ?_; intro v2 w2 hown2 hg2)
          have HO2 := Lib.hid hown2
          have HB2 := Lib.hid (own_grown HO1.out HB5.out HB5.out.size (Nat.le_refl _) hg2)
          clear hown2 hg2
          go_wp2_with fail
          go_roundw
          case rel =>
            refine ⟨k + 1, by omega, by go_num, HB2.out, S'.extract d S'.size, acc ++ [(u, nn, R)], rfl, ?_, by rw [List.length_append, HAC.out]; rfl, HZ2.out, by rw [HT.out]; simp⟩
            unfold OwnC
            rw [rowV_app, List.length_append]
            exact HO2.out
          case measure => simp [RowKit.intOf]; omega
        · have hx1 : (x != 0) = true := by simpa using hx
          have hD : rUnA [] (rUnT ts ps) S.data.toList = (acc, S'.data.toList, x) := by rw [HT.out, if_neg hx]
          have hE : rUnE ts ps S.data.toList = x := by rw [HE.out, hD]; exact if_neg hx
          have hU : rUn ts ps S.data.toList = [] := by rw [HR.out, hE, if_neg hx]
          have HE2 := Lib.hid hE; have HU2 := Lib.hid hU
          clear hx hD hE hU
          go_wp2_with fail
          refine (HQ.out _).mono ?_
          rintro en w5 ⟨rfl, bb⟩
          have HB5 := Lib.hid ((HB.out.trans (bb.mono HB.out.size)).alloc (by have := HB.out.size; have := bb.size; omega) (.cells #[.bool u, .int .i64 nn, .string R] 23))
          clear bb
          go_wp2_with fail
          go_ret2
          refine ⟨_, by rw [HE2.out]; rfl, ?_, HB5.out⟩
          rw [HU2.out]
          exact World.ownsRow_nil _ _ _ _
      · have hki : ¬ (k : Int) < l := by omega
        have hkm : k = l := by omega
        have hD : rUnA [] (rUnT ts ps) S.data.toList = (acc, S'.data.toList, 0) := by
          rw [hra, List.drop_of_length_le (by unfold rUnT; rw [List.length_map, ← HLn.out]; omega)]; rfl
        have HB := Lib.hid hb; have HO := Lib.hid hown
        clear hb hown hra hkm hac
        by_cases hs : S'.data.toList = []
        · have hE : rUnE ts ps S.data.toList = 0 := by rw [HE.out, hD]; simp [hs]
          have hU : rUn ts ps S.data.toList = acc := by rw [HR.out, hE, if_pos rfl, hD]
          obtain rfl : S' = ⟨#[]⟩ := ba_ext hs
          have HE2 := Lib.hid hE; have HU2 := Lib.hid hU
          clear hs hD hE hU
          go_wp2_with fail
          go_ret2
          refine ⟨_, by rw [HE2.out]; rfl, ?_, HB.out⟩
          rw [HU2.out]
          exact HO.out
        · have hE : rUnE ts ps S.data.toList = 30 := by rw [HE.out, hD]; simp [hs]
          have hU : rUn ts ps S.data.toList = [] := by rw [HR.out, hE]; rfl
          have q1 : S'.toList.isEmpty = false := by
            rw [Lib.toList_data]
            cases h : S'.data.toList with
            | nil => exact absurd h hs
            | cons a t => rfl
          have q2 : ¬ S'.toList = [] := by rw [Lib.toList_data]; exact hs
          have HE2 := Lib.hid hE; have HU2 := Lib.hid hU
          clear hs hD hE hU
          go_wp2_with fail
          go_ret2
          refine ⟨_, by rw [HE2.out]; rfl, ?_, HB.out⟩
          rw [HU2.out]
          exact World.ownsRow_nil _ _ _ _
  · have he : rUnE ts ps S.data.toList = 6 := by unfold rUnE; rw [if_neg hin]
    have hr : rUn ts ps S.data.toList = [] := by unfold rUn; rw [he]; rfl
    rw [he, hr]
    rw [show rIn ps n = false by rw [hn]; simpa using hin] at hwi
    have HW := Lib.hid hwi
    clear hwi hin hC hP hn hl he hr
    go_enter Tryz.func69, Tryz.ntmps69
    go_wp2_with fail
    refine HW.out.mono ?_
    rintro en w1 ⟨rfl, b1⟩
    have HB1 := Lib.hid b1
    clear b1
    go_wp2_with fail
    go_ret2
    exact ⟨_, rfl, World.ownsRow_nil _ _ _ _, HB1.out⟩
end Go.Proofs.YtcdmiiaamajfoaaGreatDoor
