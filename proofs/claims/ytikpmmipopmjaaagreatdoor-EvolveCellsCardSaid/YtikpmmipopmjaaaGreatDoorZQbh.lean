/- Evolve's laws: the chapter's examples, walked. -/
import Derived.Test.YtikpmmipopmjaaaGreatDoorZQbg
import Derived.Test.YtikpmmipopmjaaaGreatDoorZQn
set_option linter.unusedVariables false
set_option linter.unusedSimpArgs false
namespace Go.Ms
open Go.RowKit Go.Lib
structure BoxSc (T : TypeId) (b : Nat) (r : SRef) (s : Sc) (W : World) : Prop where
  q : W.heap[b]? = some (.cells #[.slice r.a r.n r.c, .slice r.b r.m r.d] T (0, 0))
  lay : ScLay W W.heap.size r s
theorem BoxSc.to {T : TypeId} {b : Nat} {r : SRef} {s : Sc} {W W' : World} (h : BoxSc T b r s W) (hb : Below W.heap.size W W') : BoxSc T b r s W' := ⟨block_kept h.q hb, h.lay.to hb⟩
theorem BoxSc.c0 {T : TypeId} {b : Nat} {r : SRef} {s : Sc} {W : World} (h : BoxSc T b r s W) : W.cell? ⟨b, 0, none⟩ = some (.slice r.a r.n r.c) := cell_of_block (i := 0) h.q rfl
theorem BoxSc.c1 {T : TypeId} {b : Nat} {r : SRef} {s : Sc} {W : World} (h : BoxSc T b r s W) : W.cell? ⟨b, 1, none⟩ = some (.slice r.b r.m r.d) := cell_of_block (i := 1) h.q rfl
theorem BoxSc.new {T : TypeId} {r : SRef} {s : Sc} {W : World} (h : ScLay W W.heap.size r s) : BoxSc T W.heap.size r s (W.alloc (.cells #[.slice r.a r.n r.c, .slice r.b r.m r.d] T)) := ⟨block_new _ _, h.to ((Below.refl _ W).alloc (Nat.le_refl _) _)⟩
theorem lay_blk {w : World} {b : Nat} {xs : List Value} {T : TypeId} (h : w.heap[b]? = some (.cells xs.toArray T (0, 0))) : Lay w w.heap.size (some ⟨b, 0, none⟩) xs := fun j u hu =>
 ⟨b, 0, rfl, (Array.getElem?_eq_some_iff.1 h).1, by rw [Nat.zero_add]; exact cell_of_block h (by simpa using hu)⟩
def isCols (l : List Co) (n : Nat) : Value → World → Prop := fun v w => ∃ A c, v = .slice A n c ∧ Lay w w.heap.size A (colV l)
theorem isCols_stable (l : List Co) (n : Nat) : Go.Rel.Stable (isCols l n) := fun v w w' ⟨A, c, h1, h2⟩ hb => ⟨A, c, h1, (h2.below hb).more hb.size⟩
def isOwnCo (B : Nat) (T : TypeId) (l : List Co) (n : Nat) : Value → World → Prop := fun v w => ∃ A c, v = .slice A n c ∧ w.ownsRow B T 7 (.slice A n c) n (colV l)
theorem isOwnCo_stable (B : Nat) (T : TypeId) (l : List Co) (n : Nat) : Go.Rel.Stable (isOwnCo B T l n) := fun v w w' ⟨A, c, h1, h2⟩ hb => ⟨A, c, h1, own_below h2 hb⟩
def isSc (s : Sc) : Value → World → Prop := fun v w => ∃ r : SRef, v = .agg #[.slice r.a r.n r.c, .slice r.b r.m r.d] ∧ ScLay w w.heap.size r s
theorem isSc_stable (s : Sc) : Go.Rel.Stable (isSc s) := fun v w w' ⟨r, h1, h2⟩ hb => ⟨r, h1, h2.to hb⟩
def EffT (T : TypeId) (w w' : World) : Prop := ∃ b : Option Nat, w.grownBy w' b ∧ ∀ g, b = some g → ∃ cs fz, w.heap[g]? = some (.cells cs T fz)
theorem EffT.own {w w' : World} {B s n : Nat} {e : TypeId} {v : Value} {xs : List Value} (h : w.ownsRow B e s v n xs) (hg : w.grownBy w' v.ownBlock) : EffT e w w' := by
 refine ⟨_, hg, fun g hv => ?_⟩
 rcases h.2 with ⟨hv', _⟩ | ⟨g', cap, cur, hv', _, hgb, _⟩
 · rw [hv'] at hv; simp [Value.ownBlock] at hv
 · rw [hv'] at hv
   simp [Value.ownBlock] at hv
   subst hv; exact ⟨_, _, hgb⟩
theorem EffT.keep {T : TypeId} {w w' : World} (h : EffT T w w') {b : Nat} {cs : Array Value} {T' : TypeId} (hb : w.heap[b]? = some (.cells cs T' (0, 0))) (hne : T' ≠ T) : w'.heap[b]? = some (.cells cs T' (0, 0)) := by
 obtain ⟨r, hg, hr⟩ := h; refine (hg.block b (Array.getElem?_eq_some_iff.1 hb).1 (fun e => ?_)).trans hb; obtain ⟨cs', fz, h2⟩ := hr b e.symm; rw [hb] at h2
 cases h2
 exact hne rfl
theorem newS_effT {T T' : TypeId} (n : Nat) (cs : Array Value) (hne : T' ≠ T) : Go.Rel.StabE (EffT T) (Go.Rel.newS n cs T') := fun v w w' ⟨g, h1, h2⟩ he => ⟨g, h1, he.keep h2 hne⟩
def isBox (B : Nat) (cs : Array Value) (T : TypeId) : Value → World → Prop := fun v w => ∃ g, v = .pointer (some ⟨g, 0, none⟩) ∧ B ≤ g ∧ w.heap[g]? = some (.cells cs T (0, 0))
theorem isBox_stable (B : Nat) (cs : Array Value) (T : TypeId) : Go.Rel.Stable (isBox B cs T) := fun v w w' ⟨g, h1, h3, h2⟩ hb => ⟨g, h1, h3, block_kept h2 hb⟩
theorem isBox_effT {T T' : TypeId} (B : Nat) (cs : Array Value) (hne : T' ≠ T) : Go.Rel.StabE (EffT T) (isBox B cs T') := fun v w w' ⟨g, h1, h3, h2⟩ he => ⟨g, h1, h3, he.keep h2 hne⟩
open Go.Rel in
theorem relUpon_append_lay {P : Program} {w : World} {o : Oper} {ev : Operand → Value} {K : Value → World → Prop} (s x : Operand) (t : TypeId)
    (ho : o.op = .call { callee := .builtin .append, args := #[s, x], argTypes := #[t, t] })
    (base : Nat) (e : TypeId) (i : TypeInfo) (z : Value) (size bytes : Nat) (ht : P.underlying t = some (.slice e)) (hi : P.info? e = some i) (hz : i.zero = some z)
    (hsize : i.size = size) (hby : i.bytes = bytes) (hzs : z.cells.size = size) (hsz : 0 < size)
    (v : Value) (n : Nat) (xs : List Value) (hs : ev s = v) (hown : w.ownsRow base e size v n xs) (B : Nat) (A : Option Addr) (m c : Nat) (news : List Value) (hx : ev x = .slice A m c) (hl : news.length = m * size) (hnews : Lay w B A news) (h1 : ∀ u ∈ news, u.oneCell' = true)
    (h63 : n + m ≤ maxLen) (hbytes : (n + m) * bytes ≤ 140737488355328) (hbase : base ≤ w.heap.size)
    (h : ∀ v' w', w'.ownsRow base e size v' (n + m) (xs ++ news) → w.grownBy w' v.ownBlock → K v' w') : relUpon P K ((execOp ev o).run P w) := by
 obtain ⟨v', w', hr, h2, h3⟩ := run_append_lay (P := P) w base t o.type e i z size bytes ht hi hz hsize hby hzs hsz v n xs hown B A m c news hl hnews h1 h63 hbytes hbase; unfold execOp; simp only [ho, resolve, invoke, builtin, Sem.run_bind, Sem.run_pure, Result.andThen_ok, List.map_toArray, List.map_cons, List.map_nil, hs, hx, hr]; exact h v' w' h2 h3
structure WkB (T TC : TypeId) (g1 g2 g3 g4 g5 : Nat) (ra rb ro rx : SRef) (w W : World) : Prop where
  x1 : BoxSc T g1 ra eW0 W
  x2 : BoxSc T g2 rb eW1 W
  x3 : BoxSc T g3 ro eW2 W
  x4 : BoxSc T g4 rx eWbad W
  row : W.heap[g5]? = some (.cells (rowV eWr).toArray TC (0, 0))
  bel : Below w.heap.size w W
theorem WkB.to {T TC : TypeId} {g1 g2 g3 g4 g5 : Nat} {ra rb ro rx : SRef} {w W W' : World} (h : WkB T TC g1 g2 g3 g4 g5 ra rb ro rx w W) (hb : Below W.heap.size W W') : WkB T TC g1 g2 g3 g4 g5 ra rb ro rx w W' :=
  ⟨h.x1.to hb, h.x2.to hb, h.x3.to hb, h.x4.to hb, block_kept h.row hb, h.bel.trans (hb.mono h.bel.size)⟩
theorem WkB.start {T TC : TypeId} {w W3 wz : World} {g1 g2 g3 g4 : Nat} {ra rb ro rx : SRef} (h1 : BoxSc T g1 ra eW0 W3) (h2 : BoxSc T g2 rb eW1 W3) (h3 : BoxSc T g3 ro eW2 W3) (hb : Below w.heap.size w W3) (bz : Below W3.heap.size W3 wz) (hg4 : W3.heap.size ≤ g4)
    (q4 : wz.heap[g4]? = some (.cells #[.slice none 0 0, .slice none 0 0] T (0, 0))) (l4 : ScLay wz wz.heap.size rx eWbad) :
    WkB T TC g1 g2 g3 g4 wz.heap.size ra rb ro rx w (((wz.setCell ⟨g4, 0, none⟩ (.slice rx.a rx.n rx.c)).setCell ⟨g4, 1, none⟩ (.slice rx.b rx.m rx.d)).alloc (.cells (rowV eWr).toArray TC)) := by
 have b5 : Below W3.heap.size W3 (((wz.setCell ⟨g4, 0, none⟩ (.slice rx.a rx.n rx.c)).setCell ⟨g4, 1, none⟩ (.slice rx.b rx.m rx.d)).alloc (.cells (rowV eWr).toArray TC)) :=
   ((bz.setCell (p := ⟨g4, 0, none⟩) hg4 _).setCell (p := ⟨g4, 1, none⟩) hg4 _).alloc (by simp only [World.size_setCell]; exact bz.size) _
 have q5 := two_set0 q4 (.slice rx.a rx.n rx.c); have q6 := two_set1 q5 (.slice rx.b rx.m rx.d); have bl := (Below.refl ((wz.setCell ⟨g4, 0, none⟩ (.slice rx.a rx.n rx.c)).setCell ⟨g4, 1, none⟩ (.slice rx.b rx.m rx.d)).heap.size ((wz.setCell ⟨g4, 0, none⟩ (.slice rx.a rx.n rx.c)).setCell ⟨g4, 1, none⟩ (.slice rx.b rx.m rx.d))).alloc (Nat.le_refl _) (.cells (rowV eWr).toArray TC); refine ⟨h1.to b5, h2.to b5, h3.to b5, ⟨block_next q6 _, ?_⟩, ?_, hb.trans (b5.mono hb.size)⟩
 · have la := (l4.la.off q4 (colV_noslice _) (.slice rx.a rx.n rx.c) (i := 0)).off q5 (colV_noslice _) (.slice rx.b rx.m rx.d) (i := 1); have lb := (l4.lb.off q4 (intV_noslice _) (.slice rx.a rx.n rx.c) (i := 0)).off q5 (intV_noslice _) (.slice rx.b rx.m rx.d) (i := 1)
   have hs : wz.heap.size = ((wz.setCell ⟨g4, 0, none⟩ (.slice rx.a rx.n rx.c)).setCell ⟨g4, 1, none⟩ (.slice rx.b rx.m rx.d)).heap.size := by simp only [World.size_setCell]
   rw [hs] at la lb; exact (ScLay.mk l4.n l4.m l4.nn l4.mm la lb).to bl
 · have := block_new ((wz.setCell ⟨g4, 0, none⟩ (.slice rx.a rx.n rx.c)).setCell ⟨g4, 1, none⟩ (.slice rx.b rx.m rx.d)) (.cells (rowV eWr).toArray TC); simp only [World.size_setCell] at this; exact this
theorem eW_sz : ScSz eW0.1 ∧ ScSz eW1.1 ∧ ScSz eW2.1 ∧ ScSz eW3.1 ∧ ScSz eW4.1 ∧ ScSz eW5.1 ∧ ScSz eW6.1 ∧ ScSz eW7.1 ∧ ScSz eW8.1 ∧ ScSz eWbad.1 := by
 unfold ScSz
 refine ⟨?_, ?_, ?_, ?_, ?_, ?_, ?_, ?_, ?_, ?_⟩ <;> decide
theorem eWr_sz : ∀ c ∈ eWr, c.2.2.size ≤ 100000 := by decide
theorem rw_blk {W : World} {g n : Nat} {T : TypeId} {l : List Cl} (h : W.heap[g]? = some (.cells (rowV l).toArray T (0, 0))) (hn : n ≤ l.length) (hl : n ≤ 100000) (hz : ∀ c ∈ l, c.2.2.size ≤ 100000) : RwLay W (some ⟨g, 0, none⟩) n (l.take n) := by
 refine ⟨by rw [List.length_take]; omega, hl, ?_, fun c hc => hz c (List.mem_of_mem_take hc)⟩; have h1 := lay_blk (xs := rowV l) h
 have e : rowV l = rowV (l.take n) ++ rowV (l.drop n) := by rw [← rowV_app, List.take_append_drop]
 rw [e] at h1
 intro j u hu
 exact h1 j u (by rw [List.getElem?_append_left ((List.getElem?_eq_some_iff.1 hu).1)]; exact hu)
structure RowL (W : World) (A : Option Addr) (l : List Cl) : Prop where
  lay : Lay W W.heap.size A (rowV l)
theorem RowL.to {W W' : World} {A : Option Addr} {l : List Cl} (h : RowL W A l) (hb : Below W.heap.size W W') : RowL W' A l := ⟨(h.lay.below hb).more hb.size⟩
def isTup0 (E : Int) : Value → World → Prop := fun v w => ∃ A c, v = .tuple #[.slice A 0 c, .int .i64 E]
theorem isTup0_stable (E : Int) : Go.Rel.Stable (isTup0 E) := fun _ _ _ h _ => h
def isNoRow : Value → World → Prop := fun v w => ∃ A c, v = .slice A 0 c
theorem isNoRow_stable : Go.Rel.Stable isNoRow := fun _ _ _ h _ => h
theorem scs_blk {W : World} {g : Nat} {T : TypeId} {rs : List SRef} {ss : List Sc} (h : W.heap[g]? = some (.cells (scsV rs).toArray T (0, 0))) (hl : rs.length = ss.length) (he : ∀ (i : Nat) r s, rs[i]? = some r → ss[i]? = some s → ScLay W W.heap.size r s) : ScsLay W W.heap.size (some ⟨g, 0, none⟩) rs ss := ⟨hl, lay_blk h, he⟩
theorem three_each {W : World} {B : Nat} {r1 r2 r3 : SRef} {s1 s2 s3 : Sc} (h1 : ScLay W B r1 s1) (h2 : ScLay W B r2 s2) (h3 : ScLay W B r3 s3) : ∀ (i : Nat) r s, [r1, r2, r3][i]? = some r → [s1, s2, s3][i]? = some s → ScLay W B r s := by
 intro i r s hr hs
 match i, hr, hs with
 | 0, hr, hs => simp at hr hs; subst hr hs; exact h1
 | 1, hr, hs => simp at hr hs; subst hr hs; exact h2
 | 2, hr, hs => simp at hr hs; subst hr hs; exact h3
 | i + 3, hr, hs => simp at hr
end Go.Ms
namespace Go.Proofs.YtikpmmipopmjaaaGreatDoor
open Go.RowKit Go.Ms Go.Lib Go.Shelf Go.Rel
abbrev WkB0 (g1 g2 g3 g4 g5 : Nat) (ra rb ro rx : SRef) (w W : World) : Prop := WkB 25 57 g1 g2 g3 g4 g5 ra rb ro rx w W
section
variable {g1 g2 g3 g4 g5 : Nat} {ra rb ro rx : SRef} {w W : World}
theorem wk_mv0 (h : WkB0 g1 g2 g3 g4 g5 ra rb ro rx w W) (hE : Env W) : Calls Tryz.prog 15 #[.agg #[.slice ra.a ra.n ra.c, .slice ra.b ra.m ra.d], .agg #[.slice ra.a ra.n ra.c, .slice ra.b ra.m ra.d], .slice (some ⟨g5, 0, none⟩) 2 2] W (RowPost W eWr 0) := by
 have := move_any ra ra eW0 eW0 (some ⟨g5, 0, none⟩) 2 2 eWr W h.x1.lay h.x1.lay eW_sz.1 eW_sz.1 (rw_blk h.row (n := 2) (by decide) (by decide) eWr_sz) hE; rw [ew_0] at this; exact this
theorem wk_mv1 (h : WkB0 g1 g2 g3 g4 g5 ra rb ro rx w W) (hE : Env W) : Calls Tryz.prog 15 #[.agg #[.slice ra.a ra.n ra.c, .slice ra.b ra.m ra.d], .agg #[.slice rb.a rb.n rb.c, .slice rb.b rb.m rb.d], .slice (some ⟨g5, 0, none⟩) 2 2] W (RowPost W eWy 0) := by
 have := move_any ra rb eW0 eW1 (some ⟨g5, 0, none⟩) 2 2 eWr W h.x1.lay h.x2.lay eW_sz.1 eW_sz.2.1 (rw_blk h.row (n := 2) (by decide) (by decide) eWr_sz) hE; rw [ew_1] at this; exact this
theorem wk_mv2 (h : WkB0 g1 g2 g3 g4 g5 ra rb ro rx w W) (c : Nat) (hE : Env W) : Calls Tryz.prog 15 #[.agg #[.slice ra.a ra.n ra.c, .slice ra.b ra.m ra.d], .agg #[.slice rb.a rb.n rb.c, .slice rb.b rb.m rb.d], .slice (some ⟨g5, 0, none⟩) 1 c] W (RowPost W [] 100) := by
 have := move_any ra rb eW0 eW1 (some ⟨g5, 0, none⟩) 1 c (eWr.take 1) W h.x1.lay h.x2.lay eW_sz.1 eW_sz.2.1 (rw_blk h.row (n := 1) (by decide) (by decide) eWr_sz) hE; rw [ew_2] at this; exact this
theorem wk_cr (h : WkB0 g1 g2 g3 g4 g5 ra rb ro rx w W) (hE : Env W) (f t : Int) (hf : -9223372036854775808 ≤ f ∧ f ≤ 9223372036854775807) (ht : -9223372036854775808 ≤ t ∧ t ≤ 9223372036854775807) {R : List Cl} {E : Int} (he : evCarry [eW0, eW2, eW1] f t eWr = (R, E)) {g : Nat} (hg : W.heap[g]? = some (.cells (scsV [ra, ro, rb]).toArray 25 (0, 0))) :
    Calls Tryz.prog 23 #[.slice (some ⟨g, 0, none⟩) 3 3, .int .i64 f, .int .i64 t, .slice (some ⟨g5, 0, none⟩) 2 2] W (RowPost W R E) := by
 have := carry_any W (some ⟨g, 0, none⟩) 3 3 [ra, ro, rb] [eW0, eW2, eW1] f t (some ⟨g5, 0, none⟩) 2 2 eWr (by decide) rfl (scs_blk hg rfl (three_each h.x1.lay h.x3.lay h.x2.lay)) (by intro s hs; simp at hs; rcases hs with rfl | rfl | rfl; exact eW_sz.1; exact eW_sz.2.2.1; exact eW_sz.2.1) hf ht (rw_blk h.row (n := 2) (by decide) (by decide) eWr_sz) hE; rw [he] at this; exact this
theorem wk_step {r1 r2 : SRef} {s1 s2 : Sc} {E : Int} (h1 : ScLay W W.heap.size r1 s1) (h2 : ScLay W W.heap.size r2 s2) (z1 : ScSz s1.1) (z2 : ScSz s2.1) (he : evStep s1 s2 = E) (hE : Env W) :
    Calls Tryz.prog 17 #[.agg #[.slice r1.a r1.n r1.c, .slice r1.b r1.m r1.d], .agg #[.slice r2.a r2.n r2.c, .slice r2.b r2.m r2.d]] W fun e w' => e = .returned (.int .i64 E) ∧ Below W.heap.size W w' := by
 have := step_any r1.a r1.b r1.n r1.c r1.m r1.d s1.1 s1.2 r2.a r2.b r2.n r2.c r2.m r2.d s2.1 s2.2 W h1.n h1.m h1.nn h1.mm h1.la h1.lb z1 h2.n h2.m h2.nn h2.mm h2.la h2.lb z2 hE; rw [show evStep (s1.1, s1.2) (s2.1, s2.2) = E from he] at this; exact this
theorem wk_ch (h : WkB0 g1 g2 g3 g4 g5 ra rb ro rx w W) (hE : Env W) {g : Nat} (hg : W.heap[g]? = some (.cells (scsV [ra, ro, ra]).toArray 25 (0, 0))) :
    Calls Tryz.prog 25 #[.slice (some ⟨g, 0, none⟩) 3 3] W fun e w' => e = .returned (.int .i64 120) ∧ Below W.heap.size W w' := by
 have := chain_any W (some ⟨g, 0, none⟩) 3 3 [ra, ro, ra] [eW0, eW2, eW0] (by decide) rfl (scs_blk hg rfl (three_each h.x1.lay h.x3.lay h.x1.lay)) (by intro s hs; simp only [List.mem_cons, List.not_mem_nil, or_false] at hs; rcases hs with rfl | rfl | rfl <;> first | exact eW_sz.1 | exact eW_sz.2.2.1) hE; rw [ew_12] at this; exact this
theorem wk_ch0 (hE : Env W) : Calls Tryz.prog 25 #[.slice none 0 0] W fun e w' => e = .returned (.int .i64 0) ∧ Below W.heap.size W w' := by
 have := chain_any W none 0 0 [] [] (by decide) rfl ⟨rfl, fun j u hu => by simp [scsV] at hu, fun i r s hr => by simp at hr⟩ (by intro s hs; simp at hs) hE; rw [ew_13] at this; exact this
end
end Go.Proofs.YtikpmmipopmjaaaGreatDoor
