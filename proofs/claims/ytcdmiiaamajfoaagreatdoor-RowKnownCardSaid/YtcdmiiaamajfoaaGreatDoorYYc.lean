/- Rows: a cell's bits are not many; no more are taken off than there are. Rows: keys put together. Rows: keys taken apart. Rows: what Unkey answers. -/
import Derived.Test.YtcdmiiaamajfoaaGreatDoorYYa
import Derived.Test.YtcdmiiaamajfoaaGreatDoorYFa
import Derived.Test.YtcdmiiaamajfoaaGreatDoorYA
import Derived.Test.YtcdmiiaamajfoaaGreatDoorYYb
set_option linter.unusedVariables false
namespace Go.Proofs.YtcdmiiaamajfoaaGreatDoor
open Go.Ms
theorem _root_.Go.Ms.ybits_len (t : Ty) (c : Cl) (h : cCheck t c = 0) : (cBits t c).length ≤ 2051 := kbitsD_len h
theorem _root_.Go.Ms.un_len (k : Int) (tn : Bool) (l : Bs) : (kUnD k tn l).2.1 ≤ l.length := by
  by_cases h : (kUnD k tn l).2.2 = 0
  · obtain ⟨⟨⟨nu, n, s⟩, d, e⟩, hD⟩ : ∃ D, kUnD k tn l = D := ⟨_, rfl⟩
    rw [hD] at h ⊢
    simp only at h
    subst h
    exact (unbits_only hD).2.1
  · rw [(unbits_err h).2]; exact Nat.zero_le _
end Go.Proofs.YtcdmiiaamajfoaaGreatDoor
namespace Go.Ms
theorem rKeyL_take {ts : List Ty} {cs : List Cl} {ps : List Int} {k : Nat} {p : Int} {t : Ty} {c : Cl} (h : ps[k]? = some p) (ht : ts[p.toNat]? = some t) (hc : cs[p.toNat]? = some c) : rKeyL ts cs (ps.take (k + 1)) = rKeyL ts cs (ps.take k) ++ cBits t c := by
  unfold rKeyL
  rw [List.take_add_one, List.flatMap_append, h]
  simp [List.getD_eq_getElem?_getD, hc, ht]
theorem rCheckL_at : ∀ {ts : List Ty} {cs : List Cl} {q : Nat} {t : Ty} {c : Cl}, rCheckL ts cs = 0 → ts[q]? = some t → cs[q]? = some c → cCheck t c = 0
  | [], _, q, t, c, _, ht, _ => by simp at ht
  | _ :: _, [], q, t, c, _, _, hc => by simp at hc
  | t0 :: ts, c0 :: cs, 0, t, c, h, ht, hc => by
    have h1 : t0 = t := by simpa using ht
    have h2 : c0 = c := by simpa using hc
    subst h1; subst h2
    by_cases h0 : cCheck t0 c0 = 0
    · exact h0
    · unfold rCheckL at h; rw [if_neg h0] at h; exact h
  | t0 :: ts, c0 :: cs, q + 1, t, c, h, ht, hc => by
    by_cases h0 : cCheck t0 c0 = 0
    · unfold rCheckL at h; rw [if_pos h0] at h
      exact rCheckL_at h (by simpa using ht) (by simpa using hc)
    · unfold rCheckL at h; rw [if_neg h0] at h; exact absurd h h0
end Go.Ms
namespace Go.Proofs.YtcdmiiaamajfoaaGreatDoor
open Go.RowKit Go.Ms Go.Lib
/-- What a closure over a row sees. -/
structure SeesRow (w : World) (p : Addr) (A : Option Addr) (n cap : Nat) (cs : List Cl) : Prop where
  box : w.cell? p = some (.slice A n cap)
  lay : Lay w w.heap.size A (rowV cs)
  len : n = cs.length
theorem SeesRow.below {w w' : World} {p : Addr} {A : Option Addr} {n cap : Nat} {cs : List Cl} (h : SeesRow w p A n cap cs) (hb : Below w.heap.size w w') : SeesRow w' p A n cap cs :=
  ⟨(hb.cell (cell_lt h.box)).trans h.box, (h.lay.below hb).more hb.size, h.len⟩
/-- The two that a key's closure sees, below block b, and the builder there. -/
structure KeyAt (b : Nat) (p r : Addr) (A D : Option Addr) (n cap m capm : Nat) (ts : List Ty) (xs : List Value) (cs : List Cl) (acc : Bs) (w : World) : Prop where
  p1 : p.block < b
  r1 : r.block < b
  pbox : w.cell? p = some (.slice A n cap)
  rbox : w.cell? r = some (.slice D m capm)
  cols : Cols w b A ts xs
  lay : Lay w b D (rowV cs)
  bld : IsBuilderF 82 5 b b (Lib.byteCells acc) w
  lt : b < w.heap.size
set_option maxRecDepth 100000 in
set_option maxHeartbeats 1000000 in
theorem key1_any (w : World) (i : Int) (q b : Nat) (p r : Addr) (A D : Option Addr) (n cap m capm : Nat) (ts : List Ty) (xs : List Value) (cs : List Cl) (acc : Bs) (t : Ty) (c : Cl) (hsz : c.2.2.size ≤ 1200) (hn' : n ≤ maxLen) (hm' : m ≤ maxLen) (hn : n = ts.length) (hm : m = cs.length) (ht : ts[q]? = some t) (hc : cs[q]? = some c) (hck : cCheck t c = 0) (hac : acc.length ≤ 1000000) (hK : KeyAt b p r A D n cap m capm ts xs cs acc w) (hE : Env w) :
    Calls Tryz.prog 55 #[.int .i64 i, .int .i64 q, .pointer (some p), .pointer (some r), .pointer (some ⟨b, 0, none⟩)] w fun e w' => e = .returned (.int .i64 0) ∧ IsBuilderF 82 5 b b (Lib.byteCells (acc ++ cBits t c)) w' ∧ Below b w w' := by
  unfold maxLen at hn' hm'
  have hqn : q < n := by rw [hn]; exact (List.getElem?_eq_some_iff.1 ht).1
  have hqm : q < m := by rw [hm]; exact (List.getElem?_eq_some_iff.1 hc).1
  obtain ⟨g, o, rfl, hg, h2, h3⟩ := hK.cols.ty ht
  obtain ⟨g', o', rfl, hg', h4, h5, h6⟩ := hK.lay.cl hc
  have h0 := hK.pbox
  have h1 := hK.rbox
  have hbl := hK.bld
  have hblt := hK.lt
  have hbd := ybits_len t c hck
  obtain ⟨u, mm, S⟩ := c
  obtain ⟨k, tn⟩ := t
  have hcb : ∀ w', Env w' → Calls Tryz.prog 56 #[.agg #[.int .i64 k, .bool tn], .agg #[.bool u, .int .i64 mm, .string S]] w' fun e w'' => e = .returned (.tuple #[.string ⟨(cBits (k, tn) (u, mm, S)).toArray⟩, .int .i64 0]) ∧ Below w'.heap.size w' w'' := fun w' h => by
    have := kbits_any k tn u mm S w' (by simp only at hsz; omega) h
    rw [show kCheck k tn u mm S.data.toList = 0 from hck] at this
    exact this
  generalize cBits (k, tn) (u, mm, S) = R at *
  simp only at h2 h3 h4 h5 h6
  have hD : (w.drew.cell? p = some (.slice (some ⟨g, o, none⟩) n cap) ∧ w.drew.cell? r = some (.slice (some ⟨g', o', none⟩) m capm) ∧ w.drew.cell? ⟨g, o + q * 7 + 2, none⟩ = some (.int .i64 k) ∧ w.drew.cell? ⟨g, o + q * 7 + 2 + 1, none⟩ = some (.bool tn) ∧ w.drew.cell? ⟨g', o' + q * 3, none⟩ = some (.bool u) ∧ w.drew.cell? ⟨g', o' + q * 3 + 1, none⟩ = some (.int .i64 mm) ∧ w.drew.cell? ⟨g', o' + q * 3 + 2, none⟩ = some (.string S)) ∧ Below w.heap.size w w.drew :=
    ⟨⟨h0, h1, h2, h3, h4, h5, h6⟩, ms_drewN (Below.refl _ _) 1⟩
  have HD := Lib.hid hD; have HC := Lib.hid hcb; have HE := Lib.hid hE; have HBL := Lib.hid hbl
  have HZ : Hid ((⟨R.toArray⟩ : ByteArray).size = R.length) := List.size_toArray
  clear hD hcb hE hbl h0 h1 h2 h3 h4 h5 h6 hK ht hc hck hn hm
  go_enter Tryz.func55, Tryz.ntmps55
  go_wp2_with fail
  go_region_held3 (fun w' => (w'.cell? p = some (.slice (some ⟨g, o, none⟩) n cap) ∧ w'.cell? r = some (.slice (some ⟨g', o', none⟩) m capm) ∧ w'.cell? ⟨g, o + q * 7 + 2, none⟩ = some (.int .i64 k) ∧ w'.cell? ⟨g, o + q * 7 + 2 + 1, none⟩ = some (.bool tn) ∧ w'.cell? ⟨g', o' + q * 3, none⟩ = some (.bool u) ∧ w'.cell? ⟨g', o' + q * 3 + 1, none⟩ = some (.int .i64 mm) ∧ w'.cell? ⟨g', o' + q * 3 + 2, none⟩ = some (.string S)) ∧ Below w.heap.size w w')
    (first
      | exact HD.out
      | exact ykeep7 HD.out bb
      | exact ykeep7 (by assumption) bb
      | (go_keep; done))
    (((with_reducible refine (HC.out _ ?_).mono ?_); exact HE.out.below (And.right (by assumption)); rintro en w5 ⟨rfl, bb⟩))
  all_goals
    have hb5 := endK (by assumption)
    have HB5 := Lib.hid hb5
    clear hb5
    go_wp2_with fail
    refine (wstr_any b b (Lib.byteCells acc) _ _ (bld_below HBL.out HB5.out) (by rw [Lib.byteCells_length, HZ.out]; omega) (by have := HB5.out.size; omega)).mono ?_
    rintro en w6 ⟨rfl, hbw, hb6, _⟩
    have HBW := Lib.hid hbw; have HB6 := Lib.hid hb6
    clear hbw hb6
    go_wp2_with fail
    go_ret
    refine ⟨rfl, ?_, (HB5.out.mono (by omega)).trans HB6.out⟩
    have := HBW.out
    have e : Lib.byteCells acc ++ Lib.strCells ⟨R.toArray⟩ = Lib.byteCells (acc ++ R) := by
      show Lib.byteCells acc ++ Lib.byteCells R = _
      unfold Lib.byteCells
      rw [List.map_append]
    rw [e] at this
    exact this
theorem KeyAt.keep {b : Nat} {p r : Addr} {A D : Option Addr} {n cap m capm : Nat} {ts : List Ty} {xs : List Value} {cs : List Cl} {acc acc' : Bs} {w w' : World} (h : KeyAt b p r A D n cap m capm ts xs cs acc w) (hb : Below b w w') (hB : IsBuilderF 82 5 b b (Lib.byteCells acc') w') : KeyAt b p r A D n cap m capm ts xs cs acc' w' :=
  ⟨h.p1, h.r1, (hb.cell h.p1).trans h.pbox, (hb.cell h.r1).trans h.rbox, h.cols.below hb, h.lay.below hb, hB, by have := hb.size; have := h.lt; omega⟩
set_option maxRecDepth 100000 in
set_option maxHeartbeats 1000000 in
theorem firstKey_any (w0 w : World) (b : Nat) (p r : Addr) (A D B : Option Addr) (n cap m capm l capl : Nat) (ts : List Ty) (xs : List Value) (cs : List Cl) (ps : List Int) (hsz : ∀ c ∈ cs, c.2.2.size ≤ 1200) (hn' : n ≤ maxLen) (hm' : m ≤ maxLen) (hl' : l ≤ 300) (hn : n = ts.length) (hm : m = cs.length) (hl : l = ps.length) (hck : rCheckL ts cs = 0) (hts : ts.length = cs.length) (hin : rIn ps cs.length = true) (hK : KeyAt b p r A D n cap m capm ts xs cs [] w) (hL : Lay w b B (intV ps)) (hE : ∀ w', Below b w w' → Env w') :
    Calls Tryz.prog 54 #[.slice B l capl, .func (.func 55) #[] #[.pointer (some p), .pointer (some r), .pointer (some ⟨b, 0, none⟩)]] w fun e w' => e = .returned (.int .i64 0) ∧ IsBuilderF 82 5 b b (Lib.byteCells (rKeyL ts cs ps)) w' ∧ Below b w w' := by
  have hkey := fun (w' : World) (i : Int) (q : Nat) (acc : Bs) (t : Ty) (c : Cl) (h0 : c.2.2.size ≤ 1200) (h1 : ts[q]? = some t) (h2 : cs[q]? = some c) (h3 : cCheck t c = 0) (h4 : acc.length ≤ 1000000) (h5 : KeyAt b p r A D n cap m capm ts xs cs acc w') (h6 : Env w') => key1_any w' i q b p r A D n cap m capm ts xs cs acc t c h0 hn' hm' hn hm h1 h2 h3 h4 h5 h6
  have HS := Lib.hid hsz; have HM := Lib.hid hm; have HN := Lib.hid hn; have HLn := Lib.hid hl; have HC := Lib.hid hck; have HI := Lib.hid hin; have HK := Lib.hid hK; have HL := Lib.hid hL; have HE := Lib.hid hE; have HX := Lib.hid hkey; have HT := Lib.hid hts
  clear hsz hn' hm' hn hm hl hck hts hin hK hL hE hkey
  go_enter Tryz.func54, Tryz.ntmps54
  go_wp2_with fail
  go_loopw [10] (fun id wr => ∃ k : Nat, k ≤ l ∧ id = .int .i64 k ∧ Below b w wr ∧ IsBuilderF 82 5 b b (Lib.byteCells (rKeyL ts cs (ps.take k))) wr ∧ (rKeyL ts cs (ps.take k)).length ≤ 3000 * k) (fun id _ => l - (RowKit.intOf id).toNat)
  case atStart => exact ⟨0, by omega, rfl, Below.refl _ _, HK.out.bld, by simp [rKeyL]⟩
  case round =>
    obtain ⟨k, hk, rfl, hb, hB, hlen⟩ := hrel
    by_cases hlk : k < l
    · have hki : (k : Int) < l := by omega
      obtain ⟨z, hp⟩ : ∃ c, ps[k]? = some c := ⟨_, List.getElem?_eq_getElem (by rw [← HLn.out]; exact hlk)⟩
      obtain ⟨p0, p1⟩ := rIn_at HI.out hp
      obtain ⟨q, rfl⟩ : ∃ q : Nat, z = q := ⟨z.toNat, by omega⟩
      obtain ⟨g, o, rfl, hg, h1⟩ := HL.out.num hp
      obtain ⟨c, hc⟩ : ∃ c, cs[q]? = some c := ⟨_, List.getElem?_eq_getElem (by omega)⟩
      obtain ⟨t, ht⟩ : ∃ c, ts[q]? = some c := ⟨_, List.getElem?_eq_getElem (by rw [HT.out]; omega)⟩
      have g1 := (hb.cell hg).trans h1
      have hstep := rKeyL_take (t := t) (c := c) hp ht hc
      have hz := HS.out c (List.mem_of_getElem? hc)
      have hbl := ybits_len t c (rCheckL_at HC.out ht hc)
      have hcall := HX.out wr k q (rKeyL ts cs (ps.take k)) t c hz ht hc (rCheckL_at HC.out ht hc) (by omega) (HK.out.keep hb hB) (HE.out wr hb)
      rw [← hstep] at hcall
      have hlen2 : (rKeyL ts cs (ps.take (k + 1))).length ≤ 3000 * (k + 1) := by rw [hstep, List.length_append]; omega
      have HQ := Lib.hid hcall; have HB := Lib.hid hb; have HG := Lib.hid hlen2
      clear hcall hb hlen hlen2 hstep hbl hp hc ht h1 hB p1 hz
      go_wp2_with fail
      refine HQ.out.mono ?_
      rintro en w1 ⟨rfl, hB1, b1⟩
      have HB1 := Lib.hid hB1; have HW1 := Lib.hid (HB.out.trans b1)
      clear hB1 b1
      go_wp2_with fail
      go_roundw
      case rel => exact ⟨k + 1, by omega, by go_num, HW1.out, HB1.out, HG.out⟩
      case measure => simp [RowKit.intOf]; omega
    · have hki : ¬ (k : Int) < l := by omega
      have hkm : k = l := by omega
      rw [hkm, HLn.out, List.take_length] at hB
      have HB := Lib.hid hb; have HF := Lib.hid hB
      clear hb hB hlen hkm
      go_wp2_with fail
      go_ret
      exact ⟨rfl, HF.out, HB.out⟩
set_option maxRecDepth 100000 in
set_option maxHeartbeats 1000000 in
theorem rowKey_any (w : World) (A B D : Option Addr) (n cap l capl m capm : Nat) (ts : List Ty) (xs : List Value) (cs : List Cl) (ps : List Int) (hsz : ∀ c ∈ cs, c.2.2.size ≤ 1200) (hn' : n ≤ maxLen) (hl' : l ≤ 300) (hm' : m ≤ maxLen) (hn : n = ts.length) (hl : l = ps.length) (hm : m = cs.length) (hC : Cols w w.heap.size A ts xs) (hP : Lay w w.heap.size B (intV ps)) (hL : Lay w w.heap.size D (rowV cs)) (hE : Env w) :
    Calls Tryz.prog 13 #[.slice A n cap, .slice B l capl, .slice D m capm] w fun e w' => e = .returned (.tuple #[.string ⟨(rKey ts cs ps).toArray⟩, .int .i64 (rKeyE ts cs ps)]) ∧ Below w.heap.size w w' := by
  obtain ⟨V, hV⟩ : ∃ V, (w.alloc (.cells #[.slice A n cap] 29)).alloc (.cells #[.slice D m capm] 24) = V := ⟨_, rfl⟩
  have hb0 : Below w.heap.size w V := by rw [← hV]; exact ((Below.refl _ _).alloc (Nat.le_refl _) _).alloc (by simp) _
  have hs0 : V.heap.size = w.heap.size + 2 := by rw [← hV]; simp
  have c0 : V.cell? ⟨w.heap.size, 0, none⟩ = some (.slice A n cap) := by
    rw [← hV, Lib.cell_of_heap (by rw [Lib.alloc_old _ _ _ (by simp)]; exact heap_alloc_new w _)]; rfl
  have c1 : V.cell? ⟨w.heap.size + 1, 0, none⟩ = some (.slice D m capm) := by
    rw [← hV]
    have := heap_alloc_new (w.alloc (.cells #[.slice A n cap] 29)) (.cells #[.slice D m capm] 24)
    rw [show (w.alloc (.cells #[.slice A n cap] 29)).heap.size = w.heap.size + 1 by simp] at this
    rw [Lib.cell_of_heap this]; rfl
  have hck := rowCheck_any V A D n cap m capm ts xs cs (fun c h => by have := hsz c h; omega) hn' hm' hn hm ((hC.below hb0).more hb0.size) ((hL.below hb0).more hb0.size) (hE.below hb0)
  have hwi := fun (w1 : World) (h : Below V.heap.size V w1) => within_any w1 B m l capl ps (by unfold maxLen; omega) hl (((hP.below hb0).more hb0.size |>.below h).more h.size)
  have HV := Lib.hid hV; have HB0 := Lib.hid hb0; have HS0 := Lib.hid hs0; have HW := Lib.hid hwi; have HE := Lib.hid hE; have HC := Lib.hid hC; have HP := Lib.hid hP; have HL := Lib.hid hL; have C0 := Lib.hid c0; have C1 := Lib.hid c1
  have HN := Lib.hid hn; have HM := Lib.hid hm; have HLn := Lib.hid hl; have HZ := Lib.hid hsz
  clear hV hb0 hs0 hwi hE hC hP hL hn hm hl hsz
  unfold maxLen at hn' hm'
  by_cases hr : rCheck ts cs = 0
  · have hts : ts.length = cs.length := by
      by_cases h : ts.length = cs.length
      · exact h
      · unfold rCheck at hr; rw [if_neg h] at hr; omega
    have hrl : rCheckL ts cs = 0 := by unfold rCheck at hr; rw [if_pos hts] at hr; exact hr
    have he : rKeyE ts cs ps = rInE ps cs.length := by unfold rKeyE; rw [if_pos hr]
    rw [hr] at hck
    by_cases hin : rIn ps cs.length = true
    · have h1 : rInE ps cs.length = 0 := by unfold rInE; rw [if_pos hin]
      have h2 : rKey ts cs ps = rKeyL ts cs ps := by unfold rKey; rw [he, if_pos h1]
      rw [he, h1, h2]
      have h1m : rInE ps m = 0 := by rw [HM.out]; exact h1
      rw [h1m] at HW
      have HCK := Lib.hid hck; have HI := Lib.hid hin; have HRL := Lib.hid hrl; have HTS := Lib.hid hts
      clear hck hin hrl hts he h1 h1m h2 hr
      go_enter Tryz.func13, Tryz.ntmps13
      go_wp2_with fail
      rw [HV.out]
      refine HCK.out.mono ?_
      rintro en w1 ⟨rfl, b1⟩
      have c3 := (b1.cell (cell_lt C1.out)).trans C1.out
      have HB1 := Lib.hid b1
      clear b1
      go_wp2_with fail
      refine (HW.out _ HB1.out).mono ?_
      rintro en w2 ⟨rfl, b2⟩
      have HB2 := Lib.hid (HB1.out.trans (b2.mono HB1.out.size))
      clear b2
      go_wp2_with fail
      have hVb : Below V.heap.size V (w2.alloc (.cells #[.pointer none, .slice none 0 0] 82)) := HB2.out.alloc HB2.out.size _
      have hbb : IsBuilderF 82 5 w2.heap.size w2.heap.size (Lib.byteCells []) (w2.alloc (.cells #[.pointer none, .slice none 0 0] 82)) := IsBuilderF.of (Lib.fresh_isBuilder 82 5 w2)
      have hsb : (w2.alloc (.cells #[.pointer none, .slice none 0 0] 82)).heap.size = w2.heap.size + 1 := by simp
      have hz2 : w.heap.size + 2 ≤ w2.heap.size := by have := HB2.out.size; have := HS0.out; omega
      have hbw : Below w.heap.size w (w2.alloc (.cells #[.pointer none, .slice none 0 0] 82)) := HB0.out.trans (hVb.mono HB0.out.size)
      obtain ⟨U, hU⟩ : ∃ U, w2.alloc (.cells #[.pointer none, .slice none 0 0] 82) = U := ⟨_, rfl⟩
      rw [hU] at hVb hbb hsb hbw
      rw [hU]
      have hKA : KeyAt w2.heap.size ⟨w.heap.size, 0, none⟩ ⟨w.heap.size + 1, 0, none⟩ A D n cap m capm ts xs cs [] U :=
        ⟨by show w.heap.size < _; omega, by show w.heap.size + 1 < _; omega, (hVb.cell (cell_lt C0.out)).trans C0.out, (hVb.cell (cell_lt C1.out)).trans C1.out, (HC.out.below hbw).more (by omega), (HL.out.below hbw).more (by omega), hbb, by omega⟩
      have hcall := firstKey_any w U w2.heap.size ⟨w.heap.size, 0, none⟩ ⟨w.heap.size + 1, 0, none⟩ A D B n cap m capm l capl ts xs cs ps HZ.out (by unfold maxLen; omega) (by unfold maxLen; omega) hl' HN.out HM.out HLn.out HRL.out HTS.out HI.out hKA ((HP.out.below hbw).more (by omega)) (fun w' h => HE.out.below (hbw.trans (h.mono (by omega))))
      have HQ := Lib.hid hcall; have HBW := Lib.hid hbw; have HZ2 := Lib.hid hz2; have HSB := Lib.hid hsb
      clear hcall hVb hbb hsb hbw hU hz2 hKA
      go_wp2_with fail
      refine HQ.out.mono ?_
      rintro en w3 ⟨rfl, hB3, b3⟩
      have HB3 := Lib.hid hB3; have HW3 := Lib.hid (HBW.out.trans (b3.mono (by have := HZ2.out; omega))); have HX3 := Lib.hid b3
      clear hB3 b3
      go_wp2_with fail
      refine (Tryz.Builder_String_any_k _ _ _ _ HB3.out (by have := HX3.out.size; have := HSB.out; omega)).mono ?_
      rintro en w4 ⟨rfl, _, b4, _⟩
      have HW4 := Lib.hid (HW3.out.trans (b4.mono (by have := HZ2.out; omega)))
      clear b4
      go_wp2_with fail
      go_ret2
      exact ⟨rfl, HW4.out⟩
    · have h1 : rInE ps cs.length = 6 := by unfold rInE; rw [if_neg hin]
      have h2 : rKey ts cs ps = [] := by unfold rKey; rw [he, if_neg (by omega)]
      rw [he, h1, h2]
      have h1m : rInE ps m = 6 := by rw [HM.out]; exact h1
      rw [h1m] at HW
      have HCK := Lib.hid hck
      clear hck hin hrl hts he h1 h1m h2 hr
      go_enter Tryz.func13, Tryz.ntmps13
      go_wp2_with fail
      rw [HV.out]
      refine HCK.out.mono ?_
      rintro en w1 ⟨rfl, b1⟩
      have c3 := (b1.cell (cell_lt C1.out)).trans C1.out
      have HB1 := Lib.hid b1
      clear b1
      go_wp2_with fail
      refine (HW.out _ HB1.out).mono ?_
      rintro en w2 ⟨rfl, b2⟩
      have HB2 := Lib.hid (HB0.out.trans ((HB1.out.trans (b2.mono HB1.out.size)).mono HB0.out.size))
      clear b2
      go_wp2_with fail
      go_ret2
      exact ⟨rfl, HB2.out.alloc HB2.out.size _⟩
  · have he : rKeyE ts cs ps = rCheck ts cs := by unfold rKeyE; rw [if_neg hr]
    have h2 : rKey ts cs ps = [] := by unfold rKey; rw [he, if_neg hr]
    rw [he, h2]
    generalize rCheck ts cs = E at *
    have hne : (E == 0) = false := by simpa using hr
    have hne2 : (E != 0) = true := by simpa using hr
    have HCK := Lib.hid hck
    clear hck hr he h2
    go_enter Tryz.func13, Tryz.ntmps13
    go_wp2_with fail
    rw [HV.out]
    refine HCK.out.mono ?_
    rintro en w1 ⟨rfl, b1⟩
    have HB1 := Lib.hid (HB0.out.trans (b1.mono HB0.out.size))
    clear b1
    go_wp2_with fail
    go_ret2
    exact ⟨rfl, HB1.out.alloc HB1.out.size _⟩
end Go.Proofs.YtcdmiiaamajfoaaGreatDoor
namespace Go.Proofs.YtcdmiiaamajfoaaGreatDoor
open Go.RowKit Go.Ms Go.Lib
theorem keepA5 {W w1 : World} {p1 p2 p3 p4 p5 : Addr} {v1 v2 v3 v4 v5 : Value} (h : (w1.cell? p1 = some v1 ∧ w1.cell? p2 = some v2 ∧ w1.cell? p3 = some v3 ∧ w1.cell? p4 = some v4 ∧ w1.cell? p5 = some v5) ∧ Below W.heap.size W w1) (o : Obj) :
    ((w1.alloc o).cell? p1 = some v1 ∧ (w1.alloc o).cell? p2 = some v2 ∧ (w1.alloc o).cell? p3 = some v3 ∧ (w1.alloc o).cell? p4 = some v4 ∧ (w1.alloc o).cell? p5 = some v5) ∧ Below W.heap.size W (w1.alloc o) :=
  ykeep5 h ((Below.refl _ _).alloc (Nat.le_refl _) o)
theorem keepS5 {W w1 : World} {b i : Nat} {p1 p2 p3 p4 p5 : Addr} {v1 v2 v3 v4 v5 : Value} (h : (w1.cell? p1 = some v1 ∧ w1.cell? p2 = some v2 ∧ w1.cell? p3 = some v3 ∧ w1.cell? p4 = some v4 ∧ w1.cell? p5 = some v5) ∧ Below W.heap.size W w1)
    (l : (p1.block < W.heap.size ∧ p2.block < W.heap.size ∧ p3.block < W.heap.size ∧ p4.block < W.heap.size ∧ p5.block < W.heap.size) ∧ W.heap.size ≤ b) (u : Value) :
    ((w1.setCell ⟨b, i, none⟩ u).cell? p1 = some v1 ∧ (w1.setCell ⟨b, i, none⟩ u).cell? p2 = some v2 ∧ (w1.setCell ⟨b, i, none⟩ u).cell? p3 = some v3 ∧ (w1.setCell ⟨b, i, none⟩ u).cell? p4 = some v4 ∧ (w1.setCell ⟨b, i, none⟩ u).cell? p5 = some v5) ∧ Below W.heap.size W (w1.setCell ⟨b, i, none⟩ u) := by
  obtain ⟨⟨h1, h2, h3, h4, h5⟩, hb⟩ := h
  obtain ⟨⟨l1, l2, l3, l4, l5⟩, lb⟩ := l
  have e : ∀ p : Addr, p.block < W.heap.size → (w1.setCell ⟨b, i, none⟩ u).cell? p = w1.cell? p := fun p hp => World.cell?_setCell_other w1 _ p u (fun e => by subst e; simp at hp; omega)
  exact ⟨⟨(e _ l1).trans h1, (e _ l2).trans h2, (e _ l3).trans h3, (e _ l4).trans h4, (e _ l5).trans h5⟩, hb.setCell (p := ⟨b, i, none⟩) lb u⟩
theorem keepAA5 {W w1 : World} {o1 o2 : Obj} {p1 p2 p3 p4 p5 : Addr} {v1 v2 v3 v4 v5 : Value} (h : ((w1.alloc o1).cell? p1 = some v1 ∧ (w1.alloc o1).cell? p2 = some v2 ∧ (w1.alloc o1).cell? p3 = some v3 ∧ (w1.alloc o1).cell? p4 = some v4 ∧ (w1.alloc o1).cell? p5 = some v5) ∧ Below W.heap.size W (w1.alloc o1))
    (l : (p1.block < W.heap.size ∧ p2.block < W.heap.size ∧ p3.block < W.heap.size ∧ p4.block < W.heap.size ∧ p5.block < W.heap.size) ∧ W.heap.size ≤ w1.heap.size) :
    ((w1.alloc o2).cell? p1 = some v1 ∧ (w1.alloc o2).cell? p2 = some v2 ∧ (w1.alloc o2).cell? p3 = some v3 ∧ (w1.alloc o2).cell? p4 = some v4 ∧ (w1.alloc o2).cell? p5 = some v5) ∧ Below W.heap.size W (w1.alloc o2) := by
  obtain ⟨⟨h1, h2, h3, h4, h5⟩, hb⟩ := h
  obtain ⟨⟨l1, l2, l3, l4, l5⟩, lb⟩ := l
  have e : ∀ p : Addr, p.block < W.heap.size → (w1.alloc o2).cell? p = (w1.alloc o1).cell? p := fun p hp => by
    rw [World.cell?_alloc_lt w1 o2 p (by omega), World.cell?_alloc_lt w1 o1 p (by omega)]
  refine ⟨⟨(e _ l1).trans h1, (e _ l2).trans h2, (e _ l3).trans h3, (e _ l4).trans h4, (e _ l5).trans h5⟩, hb.os, hb.tape, hb.output, by have := hb.size; simp at this ⊢; omega, fun k hk => ?_⟩
  have := hb.block k hk
  rw [Below.heap_alloc w1 _ k (by omega)] at this ⊢
  exact this
/-- What the closure of Unkey works on: the columns below block b; block b holds what is left of the text, block b + 1 the cells so far. -/
structure UnAt (b : Nat) (p : Addr) (A : Option Addr) (n cap : Nat) (ts : List Ty) (xs : List Value) (S : ByteArray) (v : Value) (acc : List Cl) (w : World) : Prop where
  p1 : p.block < b
  pbox : w.cell? p = some (.slice A n cap)
  cols : Cols w b A ts xs
  sbox : w.heap[b]? = some (.cells #[.string S] 9 (0, 0))
  obox : w.heap[b + 1]? = some (.cells #[v] 24 (0, 0))
  own : OwnC w (b + 2) 23 v acc
theorem grown_set (w : World) (b i : Nat) (u : Value) : w.grownBy (w.setCell ⟨b, i, none⟩ u) (some b) :=
  ⟨rfl, rfl, rfl, by simp [World.setCell], fun k _ hk => Below.heap_setCell w ⟨b, i, none⟩ u k (fun e => hk (by rw [e]))⟩
theorem own_set {w : World} {B size n b i : Nat} {e : TypeId} {v : Value} {xs : List Value} (h : w.ownsRow B e size v n xs) (hb : b < B) (u : Value) : (w.setCell ⟨b, i, none⟩ u).ownsRow B e size v n xs :=
  World.ownsRow.kept h (grown_set w b i u) (.inr (fun e => by have := (World.ownsRow.lt h b e).1; omega))
theorem box_set {w : World} {b : Nat} {x : Value} {T : TypeId} (h : w.heap[b]? = some (.cells #[x] T (0, 0))) (u : Value) : (w.setCell ⟨b, 0, none⟩ u).heap[b]? = some (.cells #[u] T (0, 0)) := by
  simp [World.setCell, Array.getElem?_modify, h]
theorem box_far {w : World} {b c : Nat} {o : Obj} (h : w.heap[b]? = some o) (hc : b ≠ c) (u : Value) : (w.setCell ⟨c, 0, none⟩ u).heap[b]? = some o := (Below.heap_setCell w ⟨c, 0, none⟩ u b hc).trans h
/-- Three stores into a cell of one's own. -/
theorem tri_box {w : World} {b : Nat} {x y z : Value} {T : TypeId} (h : w.heap[b]? = some (.cells #[x, y, z] T (0, 0))) (p q r : Value) : (((w.setCell ⟨b, 0, none⟩ p).setCell ⟨b, 1, none⟩ q).setCell ⟨b, 2, none⟩ r).heap[b]? = some (.cells #[p, q, r] T (0, 0)) := by
  simp [World.setCell, Array.getElem?_modify, h]
theorem mkblk {wx w3 : World} {cs : Array Value} {T : TypeId} (bb : Below (wx.alloc (.cells cs T)).heap.size (wx.alloc (.cells cs T)) w3) : w3.heap[wx.heap.size]? = some (.cells cs T (0, 0)) := by
  rw [bb.block _ (by simp)]
  exact heap_alloc_new wx (.cells cs T)
theorem mkblkd {wx w3 : World} {cs : Array Value} {T : TypeId} (bb : Below (wx.alloc (.cells cs T)).drew.heap.size (wx.alloc (.cells cs T)).drew w3) : w3.heap[wx.heap.size]? = some (.cells cs T (0, 0)) := mkblk (wx := wx.drew) bb
theorem UnAt.below {b : Nat} {p : Addr} {A : Option Addr} {n cap : Nat} {ts : List Ty} {xs : List Value} {S : ByteArray} {v : Value} {acc : List Cl} {w w' : World} (h : UnAt b p A n cap ts xs S v acc w) (hb : Below w.heap.size w w') : UnAt b p A n cap ts xs S v acc w' := by
  have l1 := (Array.getElem?_eq_some_iff.1 h.sbox).1
  have l2 := (Array.getElem?_eq_some_iff.1 h.obox).1
  exact ⟨h.p1, (hb.cell (by have := h.p1; omega)).trans h.pbox, h.cols.below (hb.mono (by omega)), (hb.block b l1).trans h.sbox, (hb.block _ l2).trans h.obox, own_below h.own hb⟩
/-- What stands behind the append. -/
theorem un_after {b : Nat} {x : Value} {v : Value} {S : ByteArray} {n : Nat} {xs : List Value} {w w1 w2 : World} (hs : w.heap[b]? = some (.cells #[.string S] 9 (0, 0))) (ho : w.heap[b + 1]? = some (.cells #[x] 24 (0, 0))) (own : w1.ownsRow (b + 2) 23 3 v n xs) (hb : Below w.heap.size w w1) (hg : w1.grownBy w2 v.ownBlock) :
    w2.heap[b]? = some (.cells #[.string S] 9 (0, 0)) ∧ w2.heap[b + 1]? = some (.cells #[x] 24 (0, 0)) := by
  have l1 := (Array.getElem?_eq_some_iff.1 hs).1
  have l2 := (Array.getElem?_eq_some_iff.1 ho).1
  have l3 := hb.size
  exact ⟨by rw [hg.block b (by omega) (fun e => by have := (World.ownsRow.lt own b e.symm).1; omega), hb.block b l1, hs], by rw [hg.block (b + 1) (by omega) (fun e => by have := (World.ownsRow.lt own (b + 1) e.symm).1; omega), hb.block _ l2, ho]⟩
theorem un_end {b : Nat} {p : Addr} {A A3 : Option Addr} {n cap c3 : Nat} {ts : List Ty} {xs : List Value} {S S' : ByteArray} {v : Value} {acc : List Cl} {c : Cl} {w W2 X w3 : World} (hK : UnAt b p A n cap ts xs S v acc w) (hx : Below w.heap.size w W2) (hn : Below W2.heap.size W2 X)
    (own : X.ownsRow (b + 2) 23 3 v acc.length (rowV acc)) (hz : w3.heap[b]? = some (.cells #[.string S] 9 (0, 0)) ∧ w3.heap[b + 1]? = some (.cells #[v] 24 (0, 0))) (hg : X.grownBy w3 v.ownBlock) (o3 : w3.ownsRow (b + 2) 23 3 (.slice A3 (acc.length + 1) c3) (acc.length + 1) (rowV acc ++ rowV [c])) :
    UnAt b p A n cap ts xs S' (.slice A3 (acc.length + 1) c3) (acc ++ [c]) ((w3.setCell ⟨b + 1, 0, none⟩ (.slice A3 (acc.length + 1) c3)).setCell ⟨b, 0, none⟩ (.string S')) ∧ Below b w ((w3.setCell ⟨b + 1, 0, none⟩ (.slice A3 (acc.length + 1) c3)).setCell ⟨b, 0, none⟩ (.string S')) := by
  have l1 := (Array.getElem?_eq_some_iff.1 hK.sbox).1
  have lx := hx.size
  have b3 : Below b w w3 := own_grown own ((hx.mono (by omega)).trans (hn.mono (by omega))) (by have := hn.size; omega) (by omega) hg
  have bf : Below b w ((w3.setCell ⟨b + 1, 0, none⟩ (.slice A3 (acc.length + 1) c3)).setCell ⟨b, 0, none⟩ (.string S')) := (b3.setCell (p := ⟨b + 1, 0, none⟩) (by show b ≤ b + 1; omega) _).setCell (p := ⟨b, 0, none⟩) (Nat.le_refl _) _
  refine ⟨⟨hK.p1, (bf.cell hK.p1).trans hK.pbox, hK.cols.below bf, box_set (box_far hz.1 (by omega) _) _, box_far (box_set hz.2 _) (by omega) _, ?_⟩, bf⟩
  unfold OwnC
  rw [List.length_append, rowV_app]
  exact own_set (own_set o3 (by omega) _) (by omega) _
set_option maxRecDepth 100000 in
set_option maxHeartbeats 1000000 in
theorem un1_any (w : World) (i : Int) (q b : Nat) (p : Addr) (A : Option Addr) (n cap : Nat) (ts : List Ty) (xs : List Value) (S : ByteArray) (v : Value) (acc : List Cl) (t : Ty) (hsz : S.size ≤ 100000) (hn' : n ≤ maxLen) (hn : n = ts.length) (ht : ts[q]? = some t) (hac : acc.length ≤ 1000) (D : (Bool × Int × Bs) × Nat × Int) (hD : kUnD t.1 t.2 S.data.toList = D) (hDn : D.2.1 ≤ S.size) (hK : UnAt b p A n cap ts xs S v acc w) (hE : Env w) :
    Calls Tryz.prog 138 #[.int .i64 i, .int .i64 q, .pointer (some p), .pointer (some ⟨b, 0, none⟩), .pointer (some ⟨b + 1, 0, none⟩)] w fun e w' => e = .returned (.int .i64 D.2.2) ∧ (∃ v', UnAt b p A n cap ts xs (S.extract D.2.1 S.size) v' (acc ++ [unCl D.1]) w') ∧ Below b w w' := by
  unfold maxLen at hn'
  obtain ⟨i0, hi, hz0, hz1, hz2⟩ := info_parts cell_info
  have hqn : q < n := by rw [hn]; exact (List.getElem?_eq_some_iff.1 ht).1
  obtain ⟨g, o, rfl, hg, h2, h3⟩ := hK.cols.ty ht
  obtain ⟨k, tn⟩ := t
  obtain ⟨⟨u, nn, s⟩, d, x⟩ := D
  have hcu := fun w' (h : Env w') => kunbits_any k tn S w' hsz h
  simp only at hD
  rw [hD] at hcu
  obtain ⟨R, hR⟩ : ∃ R : ByteArray, (⟨s.toArray⟩ : ByteArray) = R := ⟨_, rfl⟩
  have hv : unV ((u, nn, s), d, x) = .tuple #[.agg #[.bool u, .int .i64 nn, .string R], .int .i64 d, .int .i64 x] := by rw [← hR]; rfl
  have hun : unCl (u, nn, s) = (u, nn, R) := by rw [← hR]; rfl
  rw [hv] at hcu
  rw [hun]
  simp only at hDn h2 h3 ⊢
  have lb := (Array.getElem?_eq_some_iff.1 hK.sbox).1
  have lo := (Array.getElem?_eq_some_iff.1 hK.obox).1
  have hS : (w.drew.cell? p = some (.slice (some ⟨g, o, none⟩) n cap) ∧ w.drew.cell? ⟨g, o + q * 7 + 2, none⟩ = some (.int .i64 k) ∧ w.drew.cell? ⟨g, o + q * 7 + 2 + 1, none⟩ = some (.bool tn) ∧ w.drew.cell? ⟨b, 0, none⟩ = some (.string S) ∧ w.drew.cell? ⟨b + 1, 0, none⟩ = some v) ∧ Below w.heap.size w w.drew :=
    ⟨⟨hK.pbox, h2, h3, by show w.cell? _ = _; rw [Lib.cell_of_heap hK.sbox]; rfl, by show w.cell? _ = _; rw [Lib.cell_of_heap hK.obox]; rfl⟩, ms_drewN (Below.refl _ _) 1⟩
  have hL : (p.block < w.heap.size ∧ g < w.heap.size ∧ g < w.heap.size ∧ b < w.heap.size ∧ b + 1 < w.heap.size) ∧ True := ⟨⟨by have := hK.p1; omega, by omega, by omega, lb, lo⟩, trivial⟩
  have hA : ((w.alloc (.cells #[.bool false, .int .i64 0, .string ⟨#[]⟩] 23)).drew.cell? p = some (.slice (some ⟨g, o, none⟩) n cap) ∧ (w.alloc (.cells #[.bool false, .int .i64 0, .string ⟨#[]⟩] 23)).drew.cell? ⟨g, o + q * 7 + 2, none⟩ = some (.int .i64 k) ∧ (w.alloc (.cells #[.bool false, .int .i64 0, .string ⟨#[]⟩] 23)).drew.cell? ⟨g, o + q * 7 + 2 + 1, none⟩ = some (.bool tn) ∧ (w.alloc (.cells #[.bool false, .int .i64 0, .string ⟨#[]⟩] 23)).drew.cell? ⟨b, 0, none⟩ = some (.string S) ∧ (w.alloc (.cells #[.bool false, .int .i64 0, .string ⟨#[]⟩] 23)).drew.cell? ⟨b + 1, 0, none⟩ = some v) ∧ Below w.heap.size w (w.alloc (.cells #[.bool false, .int .i64 0, .string ⟨#[]⟩] 23)).drew := keepA5 hS (.cells #[.bool false, .int .i64 0, .string ⟨#[]⟩] 23)
  have HA := Lib.hid hA
  clear hA
  have HS := Lib.hid hS; have HC := Lib.hid hcu; have HE := Lib.hid hE; have HK := Lib.hid hK; have HL := Lib.hid hL
  clear hS hcu hE hK hL hD hR hv hun h2 h3 ht hn
  go_enter Tryz.func138, Tryz.ntmps138
  go_wp2_with fail
  go_region_held3 (fun w' => (w'.cell? p = some (.slice (some ⟨g, o, none⟩) n cap) ∧ w'.cell? ⟨g, o + q * 7 + 2, none⟩ = some (.int .i64 k) ∧ w'.cell? ⟨g, o + q * 7 + 2 + 1, none⟩ = some (.bool tn) ∧ w'.cell? ⟨b, 0, none⟩ = some (.string S) ∧ w'.cell? ⟨b + 1, 0, none⟩ = some v) ∧ Below w.heap.size w w')
    (first
      | with_reducible exact HS.out
      | with_reducible exact ykeep5 HS.out bb
      | with_reducible exact ykeep5 (by assumption) bb
      | with_reducible exact HA.out
      | with_reducible exact ykeep5 HA.out bb
      | with_reducible exact keepA5 (by assumption) _
      | with_reducible exact keepAA5 (by assumption) ⟨HL.out.1, HBS.out⟩
      | with_reducible exact keepS5 (keepS5 (keepS5 (by assumption) ⟨HL.out.1, Nat.le_refl _⟩ _) ⟨HL.out.1, Nat.le_refl _⟩ _) ⟨HL.out.1, Nat.le_refl _⟩ _
      | (go_keep; done))
    (((with_reducible refine (HC.out _ ?_).mono ?_); exact HE.out.below (And.right (by assumption)); rintro en w5 ⟨rfl, bb⟩; (have hbs : w.heap.size ≤ w5.heap.size := by (have hq := bb.size; first | exact hq | (simp at hq; omega))); (have HBS := Lib.hid hbs); clear hbs; (try (have hblk := (by first | exact mkblkd bb | exact mkblk bb); have HBK := Lib.hid hblk; clear hblk; have hg := (by first | exact mk3d bb | exact mk3 bb); obtain ⟨g0, g1, g2, k0, k1, k2⟩ := hg))))
  all_goals
    first
    | (have hbx : Below w.heap.size w (((w5.setCell ⟨w.heap.size, 0, none⟩ (.bool u)).setCell ⟨w.heap.size, 1, none⟩ (.int .i64 nn)).setCell ⟨w.heap.size, 2, none⟩ (.string R)) := endK (by assumption)
       have hbk := tri_box HBK.out (.bool u) (.int .i64 nn) (.string R)
       clear g0 g1 g2 k0 k1 k2
       have hgt := Nat.le_refl w.heap.size
       generalize (((w5.setCell ⟨w.heap.size, 0, none⟩ (.bool u)).setCell ⟨w.heap.size, 1, none⟩ (.int .i64 nn)).setCell ⟨w.heap.size, 2, none⟩ (.string R)) = W2 at *
       obtain ⟨cb, hcb⟩ : ∃ cb, w.heap.size = cb := ⟨_, rfl⟩
       rw [hcb] at hbk ⊢
       clear hcb)
    | (have hbx : Below w.heap.size w (w5.alloc (.cells #[.bool u, .int .i64 nn, .string R] 23)) := endK (by assumption)
       have hbk := heap_alloc_new w5 (.cells #[.bool u, .int .i64 nn, .string R] 23)
       have hgt := HBS.out
       generalize (w5.alloc (.cells #[.bool u, .int .i64 nn, .string R] 23)) = W2 at *
       generalize w5.heap.size = cb at *)
  all_goals
    have hua := HK.out.below hbx
    have lb2 : b < W2.heap.size := (Array.getElem?_eq_some_iff.1 hua.sbox).1
    have lo2 : b + 1 < W2.heap.size := (Array.getElem?_eq_some_iff.1 hua.obox).1
    have lc2 : cb < W2.heap.size := (Array.getElem?_eq_some_iff.1 hbk).1
    have d0 : W2.cell? ⟨b, 0, none⟩ = some (.string S) := by rw [Lib.cell_of_heap hua.sbox]; rfl
    have d1 : W2.cell? ⟨b + 1, 0, none⟩ = some v := by rw [Lib.cell_of_heap hua.obox]; rfl
    have f0 : W2.frozen? ⟨b, 0, none⟩ = false := Lib.frozen_of_heap hua.sbox 0
    have f1 : W2.frozen? ⟨b + 1, 0, none⟩ = false := Lib.frozen_of_heap hua.obox 0
    have e0 : W2.cell? ⟨cb, 0, none⟩ = some (.bool u) := by rw [Lib.cell_of_heap hbk]; rfl
    have e1 : W2.cell? ⟨cb, 1, none⟩ = some (.int .i64 nn) := by rw [Lib.cell_of_heap hbk]; rfl
    have e2 : W2.cell? ⟨cb, 2, none⟩ = some (.string R) := by rw [Lib.cell_of_heap hbk]; rfl
    have n0 : (W2.alloc (.cells #[.bool u, .int .i64 nn, .string R] 23)).drew.ownsRow (b + 2) 23 3 v acc.length (rowV acc) := World.ownsRow.alloc (w := W2.drew) hua.own _
    have n1 : Lay (W2.alloc (.cells #[.bool u, .int .i64 nn, .string R] 23)).drew (W2.alloc (.cells #[.bool u, .int .i64 nn, .string R] 23)).heap.size (some ⟨W2.heap.size, 0, none⟩) (rowV [(u, nn, R)]) := lay_new W2 [.bool u, .int .i64 nn, .string R] 23
    have n2 : b + 2 ≤ (W2.alloc (.cells #[.bool u, .int .i64 nn, .string R] 23)).drew.heap.size := by have := hbx.size; simp; omega
    have hnb : Below W2.heap.size W2 (W2.alloc (.cells #[.bool u, .int .i64 nn, .string R] 23)).drew := (ms_drewN (Below.refl _ _) 1 : Below W2.heap.size W2 W2.drew).alloc (Nat.le_refl _) _
    have NB := Lib.hid hnb
    clear hnb
    have hlb : acc.length + 1 ≤ maxLen := by unfold maxLen; omega
    have hlc : (acc.length + 1) * 32 ≤ 140737488355328 := by omega
    have N0 := Lib.hid n0; have N1 := Lib.hid n1; have N2 := Lib.hid n2; have HUA := Lib.hid hua; have HBX := Lib.hid hbx; have LB := Lib.hid hlb; have LC := Lib.hid hlc
    clear n0 n1 n2 hua hbx hlb hlc hbk
    go_wp2_with fail
    go_region_law (refine step_append_lay rfl (.tmp 22) (.tmp 24) 24 rfl (b + 2) 23 i0 (.agg #[.bool false, .int .i64 0, .string ⟨#[]⟩]) 3 32 under_cells hi hz0 hz1 hz2 rfl (Nat.succ_pos 2) v acc.length (rowV acc) rfl N0.out (W2.alloc (.cells #[.bool u, .int .i64 nn, .string R] 23)).heap.size (some ⟨W2.heap.size, 0, none⟩) 1 1 (rowV [(u, nn, R)]) rfl rfl N1.out (rowV_one _) LB.out LC.out N2.out ?_; intro v3 w3 own3 hg3; (obtain ⟨A3, c3, hv3, _⟩ := yown_slice own3); subst hv3; (have hz := un_after HUA.out.sbox HUA.out.obox N0.out NB.out hg3); (have HZ := Lib.hid hz); (have x0 := hz.1); (have x1 := hz.2); clear hz; (have y0 : w3.cell? ⟨b, 0, none⟩ = some (.string S) := (by rw [Lib.cell_of_heap x0]; rfl)); (have y1 : w3.cell? ⟨b + 1, 0, none⟩ = some v := (by rw [Lib.cell_of_heap x1]; rfl)); (have z0 := Lib.frozen_of_heap x0 0); (have z1 := Lib.frozen_of_heap x1 0); (have HG3 := Lib.hid hg3); (have O3 := Lib.hid own3); clear x0 x1 hg3 own3)
  all_goals
    go_wp2_with fail
    go_ret
    exact ⟨rfl, ⟨_, (un_end HK.out HBX.out NB.out N0.out HZ.out HG3.out O3.out).1⟩, (un_end HK.out HBX.out NB.out N0.out HZ.out HG3.out O3.out).2⟩
end Go.Proofs.YtcdmiiaamajfoaaGreatDoor
namespace Go.Ms
theorem rUnT_at {ts : List Ty} {ps : List Int} {k : Nat} {p : Int} {t : Ty} (h : ps[k]? = some p) (ht : ts[p.toNat]? = some t) : (rUnT ts ps)[k]? = some t := by
  unfold rUnT
  rw [List.getElem?_map, h]
  simp [List.getD_eq_getElem?_getD, ht]
theorem rUnA_drop {acc : List Cl} {tys : List Ty} {k : Nat} {t : Ty} {s : Bs} (h : tys[k]? = some t) :
    rUnA acc (tys.drop k) s = if (kUnD t.1 t.2 s).2.2 = 0 then rUnA (acc ++ [unCl (kUnD t.1 t.2 s).1]) (tys.drop (k + 1)) (s.drop (kUnD t.1 t.2 s).2.1) else (acc, s, (kUnD t.1 t.2 s).2.2) := by
  obtain ⟨h1, rfl⟩ := List.getElem?_eq_some_iff.1 h
  rw [List.drop_eq_getElem_cons h1]
  rfl
end Go.Ms
namespace Go.Proofs.YtcdmiiaamajfoaaGreatDoor
open Go.RowKit Go.Ms Go.Lib
set_option maxRecDepth 100000 in
set_option maxHeartbeats 1000000 in
theorem firstUn_any (w : World) (b : Nat) (p : Addr) (A B : Option Addr) (n cap l capl : Nat) (ts : List Ty) (xs : List Value) (ps : List Int) (S : ByteArray) (v : Value) (hsz : S.size ≤ 100000) (hn' : n ≤ maxLen) (hl' : l ≤ 300) (hn : n = ts.length) (hl : l = ps.length) (hin : rIn ps ts.length = true) (hK : UnAt b p A n cap ts xs S v [] w) (hL : Lay w b B (intV ps)) (hE : ∀ w', Below b w w' → Env w') :
    Calls Tryz.prog 54 #[.slice B l capl, .func (.func 138) #[] #[.pointer (some p), .pointer (some ⟨b, 0, none⟩), .pointer (some ⟨b + 1, 0, none⟩)]] w
      fun e w' => e = .returned (.int .i64 (rUnA [] (rUnT ts ps) S.data.toList).2.2) ∧ (∃ S' v' acc', UnAt b p A n cap ts xs S' v' acc' w' ∧ ((rUnA [] (rUnT ts ps) S.data.toList).2.2 = 0 → rUnA [] (rUnT ts ps) S.data.toList = (acc', S'.data.toList, 0))) ∧ Below b w w' := by
  have hun := fun (w' : World) (i : Int) (q : Nat) (S : ByteArray) (v : Value) (acc : List Cl) (t : Ty) (h0 : S.size ≤ 100000) (h1 : ts[q]? = some t) (h2 : acc.length ≤ 1000) (h3 : UnAt b p A n cap ts xs S v acc w') (h4 : Env w') =>
    un1_any w' i q b p A n cap ts xs S v acc t h0 hn' hn h1 h2 (kUnD t.1 t.2 S.data.toList) rfl (by have := un_len t.1 t.2 S.data.toList; simpa using this) h3 h4
  have HX := Lib.hid hun; have HN := Lib.hid hn; have HLn := Lib.hid hl; have HI := Lib.hid hin; have HK := Lib.hid hK; have HL := Lib.hid hL; have HE := Lib.hid hE; have HS := Lib.hid hsz
  clear hun hn' hn hl hin hK hL hE hsz
  go_enter Tryz.func54, Tryz.ntmps54
  go_wp2_with fail
  go_loopw [10] (fun id wr => ∃ k : Nat, k ≤ l ∧ id = .int .i64 k ∧ Below b w wr ∧ ∃ S' v' acc, UnAt b p A n cap ts xs S' v' acc wr ∧ acc.length = k ∧ S'.size ≤ 100000 ∧ rUnA [] (rUnT ts ps) S.data.toList = rUnA acc ((rUnT ts ps).drop k) S'.data.toList) (fun id _ => l - (RowKit.intOf id).toNat)
  case atStart => exact ⟨0, by omega, rfl, Below.refl _ _, S, v, [], HK.out, rfl, HS.out, rfl⟩
  case round =>
    obtain ⟨k, hk, rfl, hb, S', v', acc, hU, hac, hsz, hr⟩ := hrel
    by_cases hlk : k < l
    · have hki : (k : Int) < l := by omega
      obtain ⟨z, hp⟩ : ∃ c, ps[k]? = some c := ⟨_, List.getElem?_eq_getElem (by rw [← HLn.out]; exact hlk)⟩
      obtain ⟨p0, p1⟩ := rIn_at HI.out hp
      obtain ⟨q, rfl⟩ : ∃ q : Nat, z = q := ⟨z.toNat, by omega⟩
      obtain ⟨g, o, rfl, hg, h1⟩ := HL.out.num hp
      obtain ⟨t, ht⟩ : ∃ c, ts[q]? = some c := ⟨_, List.getElem?_eq_getElem (by omega)⟩
      have g1 := (hb.cell hg).trans h1
      have hstep := rUnA_drop (acc := acc) (s := S'.data.toList) (rUnT_at (t := t) hp ht)
      rw [← hr] at hstep
      have hcall := HX.out wr k q S' v' acc t hsz ht (by omega) hU (HE.out wr hb)
      have hdl := un_len t.1 t.2 S'.data.toList
      have hzz : S'.data.toList.length = S'.size := by simp
      have hex : (S'.extract (kUnD t.1 t.2 S'.data.toList).2.1 S'.size).data.toList = S'.data.toList.drop (kUnD t.1 t.2 S'.data.toList).2.1 := by
        rw [ext_list, List.take_of_length_le (by omega)]
      have hsz2 : (S'.extract (kUnD t.1 t.2 S'.data.toList).2.1 S'.size).size ≤ 100000 := by rw [ByteArray.size_extract]; omega
      have HZ2 := Lib.hid hsz2
      rw [← hex] at hstep
      generalize kUnD t.1 t.2 S'.data.toList = D at *
      obtain ⟨cc, d, x⟩ := D
      simp only at hstep hcall
      have HQ := Lib.hid hcall; have HB := Lib.hid hb; have HT := Lib.hid hstep; have HAC := Lib.hid hac
      clear hcall hb hstep hac hex hdl hzz hp ht h1 hr hU hsz hsz2
      by_cases hx : x = 0
      · subst hx
        go_wp2_with fail
        refine HQ.out.mono ?_
        rintro en w1 ⟨rfl, ⟨v2, hU2⟩, b1⟩
        have HU2 := Lib.hid hU2; have HW1 := Lib.hid (HB.out.trans b1)
        clear hU2 b1
        go_wp2_with fail
        go_roundw
        case rel => exact ⟨k + 1, by omega, by go_num, HW1.out, _, _, _, HU2.out, by rw [List.length_append, HAC.out]; rfl, HZ2.out, by rw [HT.out]; simp⟩
        case measure => simp [RowKit.intOf]; omega
      · have hx1 : (x != 0) = true := by simpa using hx
        have HX0 := Lib.hid hx
        clear hx
        go_wp2_with fail
        refine HQ.out.mono ?_
        rintro en w1 ⟨rfl, ⟨v2, hU2⟩, b1⟩
        have HU2 := Lib.hid hU2; have HW1 := Lib.hid (HB.out.trans b1)
        clear hU2 b1
        go_wp2_with fail
        go_ret
        refine ⟨by rw [HT.out, if_neg HX0.out]; rfl, ⟨_, _, _, HU2.out, fun h => ?_⟩, HW1.out⟩
        rw [HT.out, if_neg HX0.out] at h
        exact absurd h HX0.out
    · have hki : ¬ (k : Int) < l := by omega
      have hkm : k = l := by omega
      have hfin : rUnA [] (rUnT ts ps) S.data.toList = (acc, S'.data.toList, 0) := by
        rw [hr, List.drop_of_length_le (by unfold rUnT; rw [List.length_map, ← HLn.out]; omega)]; rfl
      have HF := Lib.hid hfin; have HB := Lib.hid hb; have HU := Lib.hid hU
      clear hfin hb hU hr hac hsz hkm
      go_wp2_with fail
      go_ret
      exact ⟨by rw [HF.out]; rfl, ⟨_, _, _, HU.out, fun _ => HF.out⟩, HB.out⟩
set_option maxRecDepth 100000 in
set_option maxHeartbeats 1000000 in
theorem rowUnkey_any (w : World) (A B : Option Addr) (n cap l capl : Nat) (ts : List Ty) (xs : List Value) (ps : List Int) (S : ByteArray) (hsz : S.size ≤ 100000) (hn' : n ≤ maxLen) (hl' : l ≤ 300) (hn : n = ts.length) (hl : l = ps.length) (hC : Cols w w.heap.size A ts xs) (hP : Lay w w.heap.size B (intV ps)) (hE : Env w) :
    Calls Tryz.prog 68 #[.slice A n cap, .slice B l capl, .string S] w fun e w' => ∃ v, e = .returned (.tuple #[v, .int .i64 (rUnE ts ps S.data.toList)]) ∧ OwnC w' w.heap.size 23 v (rUn ts ps S.data.toList) ∧ Below w.heap.size w w' := by
  obtain ⟨V, hV⟩ : ∃ V, ((w.alloc (.cells #[.slice A n cap] 29)).alloc (.cells #[.string S] 9)).alloc (.cells #[.slice none 0 0] 24) = V := ⟨_, rfl⟩
  have hb0 : Below w.heap.size w V := by rw [← hV]; exact (((Below.refl _ _).alloc (Nat.le_refl _) _).alloc (by simp) _).alloc (by simp; omega) _
  have hs0 : V.heap.size = w.heap.size + 3 := by rw [← hV]; simp
  have k0 : V.heap[w.heap.size]? = some (.cells #[.slice A n cap] 29 (0, 0)) := by
    rw [← hV, Lib.alloc_old _ _ _ (by simp; omega), Lib.alloc_old _ _ _ (by simp)]; exact heap_alloc_new w _
  have k1 : V.heap[w.heap.size + 1]? = some (.cells #[.string S] 9 (0, 0)) := by
    have := heap_alloc_new (w.alloc (.cells #[.slice A n cap] 29)) (.cells #[.string S] 9)
    rw [show (w.alloc (.cells #[.slice A n cap] 29)).heap.size = w.heap.size + 1 by simp] at this
    rw [← hV, Lib.alloc_old _ _ _ (by simp)]; exact this
  have k2 : V.heap[w.heap.size + 1 + 1]? = some (.cells #[.slice none 0 0] 24 (0, 0)) := by
    have := heap_alloc_new ((w.alloc (.cells #[.slice A n cap] 29)).alloc (.cells #[.string S] 9)) (.cells #[.slice none 0 0] 24)
    rw [show ((w.alloc (.cells #[.slice A n cap] 29)).alloc (.cells #[.string S] 9)).heap.size = w.heap.size + 1 + 1 by simp] at this
    rw [← hV]; exact this
  have hUA : UnAt (w.heap.size + 1) ⟨w.heap.size, 0, none⟩ A n cap ts xs S (.slice none 0 0) [] V :=
    ⟨by show w.heap.size < _; omega, by rw [Lib.cell_of_heap k0]; rfl, (hC.below hb0).more (by omega), k1, k2, World.ownsRow_nil _ _ _ _⟩
  have hwi := within_any V B n l capl ps (by unfold maxLen; omega) hl ((hP.below hb0).more hb0.size)
  have hfst := fun (w1 : World) (h : Below V.heap.size V w1) (hin : rIn ps ts.length = true) => firstUn_any w1 (w.heap.size + 1) ⟨w.heap.size, 0, none⟩ A B n cap l capl ts xs ps S (.slice none 0 0) hsz hn' hl' hn hl hin (hUA.below h) (((hP.below hb0).below (h.mono (by omega))).more (by omega)) (fun w' h' => hE.below (hb0.trans ((h.mono (by omega)).trans (h'.mono (by omega)))))
  have HV := Lib.hid hV; have HB0 := Lib.hid hb0; have HS0 := Lib.hid hs0; have HF := Lib.hid hfst; have HW := Lib.hid hwi; have HN := Lib.hid hn; have HU := Lib.hid hUA; have K2 := Lib.hid k2; have K0 := Lib.hid k0
  clear hV hb0 hs0 hfst hwi hn hUA k1 k2 k0 hC hP hE hl
  unfold maxLen at hn'
  by_cases hin : rIn ps ts.length = true
  · have h0 : rInE ps n = 0 := by unfold rInE; rw [HN.out, if_pos hin]
    rw [h0] at HW
    have he : rUnE ts ps S.data.toList = if (rUnA [] (rUnT ts ps) S.data.toList).2.2 = 0 then (if (rUnA [] (rUnT ts ps) S.data.toList).2.1 = [] then 0 else 30) else (rUnA [] (rUnT ts ps) S.data.toList).2.2 := by unfold rUnE; rw [if_pos hin]
    have hr : rUn ts ps S.data.toList = if rUnE ts ps S.data.toList = 0 then (rUnA [] (rUnT ts ps) S.data.toList).1 else [] := rfl
    generalize rUnE ts ps S.data.toList = E at *
    generalize rUn ts ps S.data.toList = R at *
    generalize rUnA [] (rUnT ts ps) S.data.toList = D at *
    have HI := Lib.hid hin
    clear hin h0
    obtain ⟨D1, D2, x⟩ := D
    simp only at he hr
    have HEQ := Lib.hid he; have HRQ := Lib.hid hr
    clear he hr
    by_cases hx : x = 0
    · subst hx
      by_cases hd : D2 = []
      · subst hd
        obtain rfl : E = 0 := by rw [HEQ.out]; simp
        obtain rfl : R = D1 := by rw [HRQ.out]; simp
        clear HEQ HRQ
        go_enter Tryz.func68, Tryz.ntmps68
        go_wp2_with fail
        rw [HV.out]
        refine HW.out.mono ?_
        rintro en w1 ⟨rfl, b1⟩
        have HB1 := Lib.hid b1
        clear b1
        go_wp2_with fail
        refine (HF.out _ HB1.out HI.out).mono ?_
        rintro en w2 ⟨rfl, ⟨S', v', acc', hu, hd⟩, b2⟩
        have hd2 := hd trivial
        simp only [Prod.mk.injEq, and_true] at hd2
        obtain ⟨rfl, hS'⟩ := hd2
        obtain rfl : S' = ⟨#[]⟩ := ba_ext hS'.symm
        obtain ⟨A2, c2, rfl, _⟩ := yown_slice hu.own
        have c5 : w2.cell? ⟨w.heap.size + 1, 0, none⟩ = some (.string ⟨#[]⟩) := by rw [Lib.cell_of_heap hu.sbox]; rfl
        have c6 : w2.cell? ⟨w.heap.size + 1 + 1, 0, none⟩ = some (.slice A2 R.length c2) := by rw [Lib.cell_of_heap hu.obox]; rfl
        have f6 := Lib.frozen_of_heap hu.obox 0
        have HU2 := Lib.hid hu
        have HB2 := Lib.hid (HB0.out.trans ((HB1.out.mono HB0.out.size).trans (b2.mono (Nat.le_succ _))))
        clear hd hS' hu b2
        go_wp2_with fail
        exact bodyPost_ret (v := .tuple #[.slice A2 R.length c2, .int .i64 0]) (by simp [results, Tryz.results68, go_sem, c6]) rfl ⟨_, rfl, own_more (own_set HU2.out.own (by omega) _) (by omega), HB2.out.setCell (p := ⟨_, _, _⟩) (by show w.heap.size ≤ w.heap.size + 1 + 1; omega) _⟩
      · obtain rfl : E = 30 := by rw [HEQ.out, if_pos rfl, if_neg hd]
        obtain rfl : R = [] := by rw [HRQ.out]; simp
        have HDN := Lib.hid hd
        clear hd
        clear HEQ HRQ
        go_enter Tryz.func68, Tryz.ntmps68
        go_wp2_with fail
        rw [HV.out]
        refine HW.out.mono ?_
        rintro en w1 ⟨rfl, b1⟩
        have HB1 := Lib.hid b1
        clear b1
        go_wp2_with fail
        refine (HF.out _ HB1.out HI.out).mono ?_
        rintro en w2 ⟨rfl, ⟨S', v', acc', hu, hd⟩, b2⟩
        have hd2 := hd trivial
        simp only [Prod.mk.injEq, and_true] at hd2
        obtain ⟨rfl, hS'⟩ := hd2
        have q1 : S'.toList.isEmpty = false := by
          rw [Lib.toList_data, ← hS']
          cases D2 with
          | nil => exact absurd rfl HDN.out
          | cons a t => rfl
        have q2 : ¬ S'.toList = [] := by rw [Lib.toList_data, ← hS']; exact HDN.out
        obtain ⟨A2, c2, rfl, _⟩ := yown_slice hu.own
        have c5 : w2.cell? ⟨w.heap.size + 1, 0, none⟩ = some (.string S') := by rw [Lib.cell_of_heap hu.sbox]; rfl
        have c6 : w2.cell? ⟨w.heap.size + 1 + 1, 0, none⟩ = some (.slice A2 D1.length c2) := by rw [Lib.cell_of_heap hu.obox]; rfl
        have f6 := Lib.frozen_of_heap hu.obox 0
        have HB2 := Lib.hid (HB0.out.trans ((HB1.out.mono HB0.out.size).trans (b2.mono (Nat.le_succ _))))
        clear hd hS' hu b2
        go_wp2_with fail
        exact bodyPost_ret (v := .tuple #[.slice none 0 0, .int .i64 30]) (by simp [results, Tryz.results68, go_sem, c6]) rfl ⟨_, rfl, World.ownsRow_nil _ _ _ _, HB2.out.setCell (p := ⟨_, _, _⟩) (by show w.heap.size ≤ w.heap.size + 1 + 1; omega) _⟩
    · obtain rfl : E = x := by rw [HEQ.out, if_neg hx]
      obtain rfl : R = [] := by rw [HRQ.out, if_neg hx]
      have x1 : (E == 0) = false := by simpa using hx
      have x2 : (E != 0) = true := by simpa using hx
      clear hx
      clear HEQ HRQ
      go_enter Tryz.func68, Tryz.ntmps68
      go_wp2_with fail
      rw [HV.out]
      refine HW.out.mono ?_
      rintro en w1 ⟨rfl, b1⟩
      have HB1 := Lib.hid b1
      clear b1
      go_wp2_with fail
      refine (HF.out _ HB1.out HI.out).mono ?_
      rintro en w2 ⟨rfl, ⟨S', v', acc', hu, hd⟩, b2⟩
      obtain ⟨A2, c2, rfl, _⟩ := yown_slice hu.own
      have c5 : w2.cell? ⟨w.heap.size + 1, 0, none⟩ = some (.string S') := by rw [Lib.cell_of_heap hu.sbox]; rfl
      have c6 : w2.cell? ⟨w.heap.size + 1 + 1, 0, none⟩ = some (.slice A2 acc'.length c2) := by rw [Lib.cell_of_heap hu.obox]; rfl
      have f6 := Lib.frozen_of_heap hu.obox 0
      have HB2 := Lib.hid (HB0.out.trans ((HB1.out.mono HB0.out.size).trans (b2.mono (Nat.le_succ _))))
      clear hd hu b2
      go_wp2_with fail
      exact bodyPost_ret (v := .tuple #[.slice none 0 0, .int .i64 E]) (by simp [results, Tryz.results68, go_sem, c6]) rfl ⟨_, rfl, World.ownsRow_nil _ _ _ _, HB2.out.setCell (p := ⟨_, _, _⟩) (by show w.heap.size ≤ w.heap.size + 1 + 1; omega) _⟩
  · have h0 : rInE ps n = 6 := by unfold rInE; rw [HN.out, if_neg hin]
    rw [h0] at HW
    have he : rUnE ts ps S.data.toList = 6 := by unfold rUnE; rw [if_neg hin]
    have hr : rUn ts ps S.data.toList = [] := by unfold rUn; rw [he]; rfl
    rw [he, hr]
    clear h0 he hr hin HF
    go_enter Tryz.func68, Tryz.ntmps68
    go_wp2_with fail
    rw [HV.out]
    refine HW.out.mono ?_
    rintro en w1 ⟨rfl, b1⟩
    have k1 := (b1.block _ (Array.getElem?_eq_some_iff.1 K2.out).1).trans K2.out
    have c6 : w1.cell? ⟨w.heap.size + 1 + 1, 0, none⟩ = some (.slice none 0 0) := by rw [Lib.cell_of_heap k1]; rfl
    have f6 := Lib.frozen_of_heap k1 0
    have HB1 := Lib.hid (HB0.out.trans (b1.mono HB0.out.size))
    clear b1 k1
    go_wp2_with fail
    exact bodyPost_ret (v := .tuple #[.slice none 0 0, .int .i64 6]) (by simp [results, Tryz.results68, go_sem, c6]) rfl ⟨_, rfl, World.ownsRow_nil _ _ _ _, HB1.out.setCell (p := ⟨_, _, _⟩) (by show w.heap.size ≤ w.heap.size + 1 + 1; omega) _⟩
end Go.Proofs.YtcdmiiaamajfoaaGreatDoor
