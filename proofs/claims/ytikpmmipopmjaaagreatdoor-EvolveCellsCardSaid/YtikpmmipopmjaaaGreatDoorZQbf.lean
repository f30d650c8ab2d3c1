/- Schemas: the examples, walked. Schemas that follow each other, plainly (closed): the texts of the examples, read; what the examples answer. Rows: places held against a number; the cells at places. Rows: a cell's bits are not many; no more are taken off than there are. Rows: keys put together. Evolve's laws: a schema read of a text. -/
import Derived.Test.YtikpmmipopmjaaaGreatDoorZQw
import Derived.Test.YtikpmmipopmjaaaGreatDoorZQbe
import Derived.Test.YtikpmmipopmjaaaGreatDoorZS6
import Derived.Test.YtikpmmipopmjaaaGreatDoorZQq
import Derived.Test.YtikpmmipopmjaaaGreatDoorZQu
import Derived.WalkKit
import Derived.Test.YtikpmmipopmjaaaGreatDoorZQba
import Derived.Test.YtikpmmipopmjaaaGreatDoorZQb
import Derived.Test.YtikpmmipopmjaaaGreatDoorZQn
import Derived.Test.YtikpmmipopmjaaaGreatDoorZQj
import Derived.Test.YtikpmmipopmjaaaGreatDoorZQbc
set_option linter.unusedVariables false
set_option linter.unusedSimpArgs false
namespace Go.Proofs.YtikpmmipopmjaaaGreatDoor
open Go.RowKit Go.Ms Go.Lib
theorem parse_is {S : ByteArray} {w : World} {D : List Co × List Int × Nat × Int} (hs : S.size ≤ 20000) (hE : Env w) (h : parseD S.data.toList = D) {n m : Nat} {l : Int} (hn : D.1.length = n) (hm : D.2.1.length = m) (hl : ((D.2.2.1 : Nat) : Int) = l) :
    Calls Tryz.prog 55 #[.string S] w fun e w' => ∃ (A B : Option Addr) (c d : Nat), e = .returned (.tuple #[.agg #[.slice A n c, .slice B m d], .int .i64 l, .int .i64 D.2.2.2]) ∧ Lay w' w'.heap.size A (colV D.1) ∧ Lay w' w'.heap.size B (intV D.2.1) ∧ Below w.heap.size w w' := by
 subst h hn hm hl; exact scparse_any S w hs hE
end Go.Proofs.YtikpmmipopmjaaaGreatDoor
namespace Go.Ms
open Go.RowKit Go.Lib
def eW0 : Sc := ([(1, ⟨#[105, 100]⟩, (2, false), (false, 0, ⟨#[]⟩)), (2, ⟨#[115]⟩, (4, false), (false, 0, ⟨#[100]⟩))], [0])
theorem pd_eW0 : parseD [49, 32, 105, 100, 32, 105, 110, 116, 51, 50, 42, 32, 48, 10, 50, 32, 115, 32, 115, 116, 114, 105, 110, 103, 32, 34, 100, 34, 10] = (eW0.1, eW0.2, 0, 0) := by kernel_rfl
def eW1 : Sc := ([(1, ⟨#[105, 100]⟩, (3, false), (false, 0, ⟨#[]⟩)), (4, ⟨#[110]⟩, (3, true), (true, 0, ⟨#[]⟩))], [0])
theorem pd_eW1 : parseD [49, 32, 105, 100, 32, 105, 110, 116, 54, 52, 42, 32, 48, 10, 52, 32, 110, 32, 105, 110, 116, 54, 52, 63, 32, 110, 117, 108, 108, 10] = (eW1.1, eW1.2, 0, 0) := by kernel_rfl
def eW2 : Sc := ([(1, ⟨#[105, 100]⟩, (2, false), (false, 0, ⟨#[]⟩))], [0])
theorem pd_eW2 : parseD [49, 32, 105, 100, 32, 105, 110, 116, 51, 50, 42, 32, 48, 10] = (eW2.1, eW2.2, 0, 0) := by kernel_rfl
def eW3 : Sc := ([(2, ⟨#[115]⟩, (4, false), (false, 0, ⟨#[100]⟩))], [])
theorem pd_eW3 : parseD [50, 32, 115, 32, 115, 116, 114, 105, 110, 103, 32, 34, 100, 34, 10] = (eW3.1, eW3.2, 0, 0) := by kernel_rfl
def eW4 : Sc := ([(1, ⟨#[105, 100]⟩, (2, false), (false, 0, ⟨#[]⟩)), (2, ⟨#[116]⟩, (4, false), (false, 0, ⟨#[100]⟩))], [0])
theorem pd_eW4 : parseD [49, 32, 105, 100, 32, 105, 110, 116, 51, 50, 42, 32, 48, 10, 50, 32, 116, 32, 115, 116, 114, 105, 110, 103, 32, 34, 100, 34, 10] = (eW4.1, eW4.2, 0, 0) := by kernel_rfl
def eW5 : Sc := ([(1, ⟨#[105, 100]⟩, (2, false), (false, 0, ⟨#[]⟩)), (2, ⟨#[115]⟩, (4, true), (false, 0, ⟨#[100]⟩))], [0])
theorem pd_eW5 : parseD [49, 32, 105, 100, 32, 105, 110, 116, 51, 50, 42, 32, 48, 10, 50, 32, 115, 32, 115, 116, 114, 105, 110, 103, 63, 32, 34, 100, 34, 10] = (eW5.1, eW5.2, 0, 0) := by kernel_rfl
def eW6 : Sc := ([(1, ⟨#[105, 100]⟩, (2, false), (false, 0, ⟨#[]⟩)), (2, ⟨#[115]⟩, (4, false), (false, 0, ⟨#[101]⟩))], [0])
theorem pd_eW6 : parseD [49, 32, 105, 100, 32, 105, 110, 116, 51, 50, 42, 32, 48, 10, 50, 32, 115, 32, 115, 116, 114, 105, 110, 103, 32, 34, 101, 34, 10] = (eW6.1, eW6.2, 0, 0) := by kernel_rfl
def eW7 : Sc := ([(2, ⟨#[115]⟩, (4, false), (false, 0, ⟨#[]⟩))], [0])
theorem pd_eW7 : parseD [50, 32, 115, 32, 115, 116, 114, 105, 110, 103, 42, 32, 34, 34, 10] = (eW7.1, eW7.2, 0, 0) := by kernel_rfl
def eW8 : Sc := ([(1, ⟨#[97]⟩, (1, false), (false, 0, ⟨#[]⟩)), (2, ⟨#[115]⟩, (4, false), (false, 0, ⟨#[]⟩))], [1])
theorem pd_eW8 : parseD [49, 32, 97, 32, 98, 111, 111, 108, 32, 102, 97, 108, 115, 101, 10, 50, 32, 115, 32, 115, 116, 114, 105, 110, 103, 42, 32, 34, 34, 10] = (eW8.1, eW8.2, 0, 0) := by kernel_rfl
def eWbad : Sc := (eW2.1 ++ eW2.1, [0])
def eWr : List Cl := [(false, 5, ⟨#[]⟩), (false, 0, ⟨#[120]⟩)]
def eWy : List Cl := [(false, 5, ⟨#[]⟩), (true, 0, ⟨#[]⟩)]
theorem ew_0 : evMove eW0 eW0 eWr = (eWr, 0) := by kernel_rfl
theorem ew_1 : evMove eW0 eW1 eWr = (eWy, 0) := by kernel_rfl
theorem ew_2 : evMove eW0 eW1 (eWr.take 1) = ([], 100) := by kernel_rfl
theorem ew_3 : evCarry [eW0, eW2, eW1] 1 3 eWr = (eWy, 0) := by kernel_rfl
theorem ew_4 : evCarry [eW0, eW2, eW1] 2 1 eWr = ([], 131) := by kernel_rfl
theorem ew_5 : evStep eW0 eWbad = 2 := by kernel_rfl
theorem ew_6 : evStep eW0 eW3 = 120 := by kernel_rfl
theorem ew_7 : evStep eW0 eW4 = 120 := by kernel_rfl
theorem ew_8 : evStep eW0 eW5 = 120 := by kernel_rfl
theorem ew_9 : evStep eW0 eW6 = 120 := by kernel_rfl
theorem ew_10 : evStep eW7 eW8 = 120 := by kernel_rfl
theorem ew_11 : evStep eW2 eW0 = 0 := by kernel_rfl
theorem ew_12 : evChain [eW0, eW2, eW0] = 120 := by kernel_rfl
theorem ew_13 : evChain [] = 0 := by kernel_rfl
end Go.Ms
namespace Go.Ms
theorem rInE_drop {ps : List Int} {k : Nat} {p : Int} {n : Nat} (h : ps[k]? = some p) : rInE (ps.drop k) n = if 0 ≤ p ∧ p < n then rInE (ps.drop (k + 1)) n else 6 := by
 obtain ⟨h1, rfl⟩ := List.getElem?_eq_some_iff.1 h; rw [List.drop_eq_getElem_cons h1]; unfold rInE rIn; simp only [List.all_cons, Bool.and_eq_true, decide_eq_true_eq]
 by_cases hp : 0 ≤ ps[k] ∧ ps[k] < n
 · rw [if_pos hp]; simp only [hp.1, hp.2, true_and]
 · rw [if_neg hp, if_neg (fun h => hp h.1)]
theorem rIn_at {ps : List Int} {n k : Nat} {p : Int} (h : rIn ps n = true) (hk : ps[k]? = some p) : 0 ≤ p ∧ p < n := by
 have := List.all_eq_true.1 h p (List.mem_of_getElem? hk)
 simpa using this
end Go.Ms
namespace Go.Proofs.YtikpmmipopmjaaaGreatDoor
open Go.RowKit Go.Ms Go.Lib
theorem within1_any (w : World) (i p : Int) (a : Addr) (n : Nat) (ha : w.cell? a = some (.int .i64 n)) :
    Calls Tryz.prog 93 #[.int .i64 i, .int .i64 p, .pointer (some a)] w fun e w' => e = .returned (.int .i64 (if 0 ≤ p ∧ p < n then 0 else 6)) ∧ Below w.heap.size w w' := by
 by_cases h1 : p < 0
 · rw [if_neg (by omega)]
   go_enter Tryz.func93, Tryz.ntmps93
   go_wp2
   go_ret
   exact ⟨rfl, Below.refl _ _⟩
 · by_cases h2 : (n : Int) ≤ p
   · rw [if_neg (by omega)]
     go_enter Tryz.func93, Tryz.ntmps93
     go_wp2
     go_ret
     exact ⟨rfl, Below.refl _ _⟩
   · rw [if_pos (by omega)]
     go_enter Tryz.func93, Tryz.ntmps93
     go_wp2
     go_ret
     exact ⟨rfl, Below.refl _ _⟩
set_option maxRecDepth 100000 in
theorem firstWithin_any (w : World) (a : Addr) (B : Option Addr) (n m capm : Nat) (ps : List Int) (hm' : m ≤ maxLen) (hm : m = ps.length) (ha : w.cell? a = some (.int .i64 n)) (hL : Lay w w.heap.size B (intV ps)) :
    Calls Tryz.prog 65 #[.slice B m capm, .func (.func 93) #[] #[.pointer (some a)]] w fun e w' => e = .returned (.int .i64 (rInE ps n)) ∧ Below w.heap.size w w' := by
 unfold maxLen at hm'
 have hck := fun (w' : World) (i p : Int) (h : w'.cell? a = some (.int .i64 n)) => within1_any w' i p a n h
 have HA := Lib.hid ha; have HL := Lib.hid hL; have HK := Lib.hid hck; have HM := Lib.hid hm
 have la := cell_lt ha; clear ha hL hck hm
 go_enter Tryz.func65, Tryz.ntmps65
 go_wp2_with fail
 go_loopw [10] (fun id wr => ∃ k : Nat, k ≤ m ∧ id = .int .i64 k ∧ Below w.heap.size w wr ∧ rInE ps n = rInE (ps.drop k) n) (fun id _ => m - (RowKit.intOf id).toNat)
 case atStart => exact ⟨0, by omega, rfl, Below.refl _ _, rfl⟩
 case round =>
  obtain ⟨k, hk, rfl, hb, hr⟩ := hrel; have HR := Lib.hid hr; clear hr
  by_cases hlk : k < m
  · have hki : (k : Int) < m := by omega
    obtain ⟨p, hp⟩ : ∃ c, ps[k]? = some c := ⟨_, List.getElem?_eq_getElem (by rw [← HM.out]; exact hlk)⟩; obtain ⟨g, o, rfl, hg, h1⟩ := HL.out.num hp; have g1 := (hb.cell hg).trans h1; have hd := rInE_drop (n := n) hp; have hcall := HK.out wr k p ((hb.cell la).trans HA.out)
    have HD := Lib.hid hd; have HB := Lib.hid hb
    by_cases hin : 0 ≤ p ∧ p < n
    · rw [if_pos hin] at hcall hd
      have HC := Lib.hid hcall; have HD := Lib.hid hd
      clear hcall hd hp h1 hb hin
      go_wp2_with fail
      refine HC.out.mono ?_; rintro en w1 ⟨rfl, b1⟩; have HB1 := Lib.hid (HB.out.trans (b1.mono HB.out.size)); clear b1
      go_wp2_with fail
      go_roundw
      case rel => exact ⟨k + 1, by omega, by go_num, HB1.out, by rw [HR.out, HD.out]⟩
      case measure => simp [RowKit.intOf]; omega
    · rw [if_neg hin] at hcall hd
      have HC := Lib.hid hcall; have HD := Lib.hid hd
      clear hcall hd hp h1 hb hin
      go_wp2_with fail
      refine HC.out.mono ?_; rintro en w1 ⟨rfl, b1⟩; have HB1 := Lib.hid (HB.out.trans (b1.mono HB.out.size)); clear b1
      go_wp2_with fail
      go_ret
      exact ⟨by rw [HR.out, HD.out]; rfl, HB1.out⟩
  · have hki : ¬ (k : Int) < m := by omega
    have hkm : k = m := by omega
    have h0 : rInE ps n = 0 := by rw [HR.out, hkm, HM.out, List.drop_length]; rfl
    have H0 := Lib.hid h0; have HB := Lib.hid hb; clear h0 hb hkm
    go_wp2_with fail
    go_ret
    exact ⟨by rw [H0.out]; rfl, HB.out⟩
theorem within_any (w : World) (B : Option Addr) (n m capm : Nat) (ps : List Int) (hm' : m ≤ maxLen) (hm : m = ps.length) (hL : Lay w w.heap.size B (intV ps)) :
    Calls Tryz.prog 64 #[.slice B m capm, .int .i64 n] w fun e w' => e = .returned (.int .i64 (rInE ps n)) ∧ Below w.heap.size w w' := by
 have hb0 : Below w.heap.size w (w.alloc (.cells #[.int .i64 n] 3)) := (Below.refl _ _).alloc (Nat.le_refl _) _; have hc := firstWithin_any (w.alloc (.cells #[.int .i64 n] 3)) ⟨w.heap.size, 0, none⟩ B n m capm ps hm' hm (by rw [Lib.cell_of_heap (heap_alloc_new w _)]; rfl) ((hL.below hb0).more (by simp))
 have HC := Lib.hid hc; have HB := Lib.hid hb0
 clear hc hb0 hL hm hm'
 go_enter Tryz.func64, Tryz.ntmps64
 go_wp2_with fail
 refine HC.out.mono ?_; rintro en w1 ⟨rfl, b1⟩; have HB1 := Lib.hid (HB.out.trans (b1.mono HB.out.size)); clear b1
 go_wp2_with fail
 go_ret
 exact ⟨rfl, HB1.out⟩
end Go.Proofs.YtikpmmipopmjaaaGreatDoor
namespace Go.Proofs.YtikpmmipopmjaaaGreatDoor
open Go.Ms
theorem _root_.Go.Ms.ybits_len (t : Ty) (c : Cl) (h : cCheck t c = 0) : (cBits t c).length ≤ 2051 := kbitsD_len h
end Go.Proofs.YtikpmmipopmjaaaGreatDoor
namespace Go.Ms
theorem rKeyL_take {ts : List Ty} {cs : List Cl} {ps : List Int} {k : Nat} {p : Int} {t : Ty} {c : Cl} (h : ps[k]? = some p) (ht : ts[p.toNat]? = some t) (hc : cs[p.toNat]? = some c) : rKeyL ts cs (ps.take (k + 1)) = rKeyL ts cs (ps.take k) ++ cBits t c := by
 unfold rKeyL; rw [List.take_add_one, List.flatMap_append, h]
 simp [List.getD_eq_getElem?_getD, hc, ht]
theorem rCheckL_at : ∀ {ts : List Ty} {cs : List Cl} {q : Nat} {t : Ty} {c : Cl}, rCheckL ts cs = 0 → ts[q]? = some t → cs[q]? = some c → cCheck t c = 0
  | [], _, q, t, c, _, ht, _ => by simp at ht
  | _ :: _, [], q, t, c, _, _, hc => by simp at hc
  | t0 :: ts, c0 :: cs, 0, t, c, h, ht, hc => by
   have h1 : t0 = t := by simpa using ht
   have h2 : c0 = c := by simpa using hc
   subst h1; subst h2
   by_cases h0 : cCheck t0 c0 = 0
   · exact h0
   · unfold rCheckL at h; rw [if_neg h0] at h; exact h
  | t0 :: ts, c0 :: cs, q + 1, t, c, h, ht, hc => by
   by_cases h0 : cCheck t0 c0 = 0
   · unfold rCheckL at h; rw [if_pos h0] at h
     exact rCheckL_at h (by simpa using ht) (by simpa using hc)
   · unfold rCheckL at h; rw [if_neg h0] at h; exact absurd h h0
end Go.Ms
namespace Go.Proofs.YtikpmmipopmjaaaGreatDoor
open Go.RowKit Go.Ms Go.Lib
structure KeyAt (b : Nat) (p r : Addr) (A D : Option Addr) (n cap m capm : Nat) (ts : List Ty) (xs : List Value) (cs : List Cl) (acc : Bs) (w : World) : Prop where
  p1 : p.block < b
  r1 : r.block < b
  pbox : w.cell? p = some (.slice A n cap)
  rbox : w.cell? r = some (.slice D m capm)
  cols : Cols w b A ts xs
  lay : Lay w b D (rowV cs)
  bld : IsBuilderF 94 5 b b (Lib.byteCells acc) w
  lt : b < w.heap.size
set_option maxRecDepth 100000 in
set_option maxHeartbeats 1000000 in
theorem key1_any (w : World) (i : Int) (q b : Nat) (p r : Addr) (A D : Option Addr) (n cap m capm : Nat) (ts : List Ty) (xs : List Value) (cs : List Cl) (acc : Bs) (t : Ty) (c : Cl) (hsz : c.2.2.size ≤ 1200) (hn' : n ≤ maxLen) (hm' : m ≤ maxLen) (hn : n = ts.length) (hm : m = cs.length) (ht : ts[q]? = some t) (hc : cs[q]? = some c) (hck : cCheck t c = 0) (hac : acc.length ≤ 1000000) (hK : KeyAt b p r A D n cap m capm ts xs cs acc w) (hE : Env w) :
    Calls Tryz.prog 66 #[.int .i64 i, .int .i64 q, .pointer (some p), .pointer (some r), .pointer (some ⟨b, 0, none⟩)] w fun e w' => e = .returned (.int .i64 0) ∧ IsBuilderF 94 5 b b (Lib.byteCells (acc ++ cBits t c)) w' ∧ Below b w w' := by
 unfold maxLen at hn' hm'
 have hqn : q < n := by rw [hn]; exact (List.getElem?_eq_some_iff.1 ht).1
 have hqm : q < m := by rw [hm]; exact (List.getElem?_eq_some_iff.1 hc).1
 obtain ⟨g, o, rfl, hg, h2, h3⟩ := hK.cols.ty ht; obtain ⟨g', o', rfl, hg', h4, h5, h6⟩ := hK.lay.cl hc; have h0 := hK.pbox; have h1 := hK.rbox; have hbl := hK.bld; have hblt := hK.lt; have hbd := ybits_len t c hck; obtain ⟨u, mm, S⟩ := c; obtain ⟨k, tn⟩ := t
 have hcb : ∀ w', Env w' → Calls Tryz.prog 67 #[.agg #[.int .i64 k, .bool tn], .agg #[.bool u, .int .i64 mm, .string S]] w' fun e w'' => e = .returned (.tuple #[.string ⟨(cBits (k, tn) (u, mm, S)).toArray⟩, .int .i64 0]) ∧ Below w'.heap.size w' w'' := fun w' h => by
  have := kbits_any k tn u mm S w' (by simp only at hsz; omega) h; rw [show kCheck k tn u mm S.data.toList = 0 from hck] at this; exact this
 generalize cBits (k, tn) (u, mm, S) = R at *
 simp only at h2 h3 h4 h5 h6
 have hD : (w.drew.cell? p = some (.slice (some ⟨g, o, none⟩) n cap) ∧ w.drew.cell? r = some (.slice (some ⟨g', o', none⟩) m capm) ∧ w.drew.cell? ⟨g, o + q * 7 + 2, none⟩ = some (.int .i64 k) ∧ w.drew.cell? ⟨g, o + q * 7 + 2 + 1, none⟩ = some (.bool tn) ∧ w.drew.cell? ⟨g', o' + q * 3, none⟩ = some (.bool u) ∧ w.drew.cell? ⟨g', o' + q * 3 + 1, none⟩ = some (.int .i64 mm) ∧ w.drew.cell? ⟨g', o' + q * 3 + 2, none⟩ = some (.string S)) ∧ Below w.heap.size w w.drew :=
   ⟨⟨h0, h1, h2, h3, h4, h5, h6⟩, ms_drewN (Below.refl _ _) 1⟩
 have HD := Lib.hid hD; have HC := Lib.hid hcb; have HE := Lib.hid hE; have HBL := Lib.hid hbl
 have HZ : Hid ((⟨R.toArray⟩ : ByteArray).size = R.length) := List.size_toArray; clear hD hcb hE hbl h0 h1 h2 h3 h4 h5 h6 hK ht hc hck hn hm
 go_enter Tryz.func66, Tryz.ntmps66
 go_wp2_with fail
 go_region_held3 (fun w' => (w'.cell? p = some (.slice (some ⟨g, o, none⟩) n cap) ∧ w'.cell? r = some (.slice (some ⟨g', o', none⟩) m capm) ∧ w'.cell? ⟨g, o + q * 7 + 2, none⟩ = some (.int .i64 k) ∧ w'.cell? ⟨g, o + q * 7 + 2 + 1, none⟩ = some (.bool tn) ∧ w'.cell? ⟨g', o' + q * 3, none⟩ = some (.bool u) ∧ w'.cell? ⟨g', o' + q * 3 + 1, none⟩ = some (.int .i64 mm) ∧ w'.cell? ⟨g', o' + q * 3 + 2, none⟩ = some (.string S)) ∧ Below w.heap.size w w')
   (first
     | exact HD.out
     | exact ykeep7 HD.out bb
     | exact ykeep7 (by assumption) bb
     | (go_keep; done))
   (((with_reducible refine (HC.out _ ?_).mono ?_); exact HE.out.below (And.right (by assumption)); rintro en w5 ⟨rfl, bb⟩))
 all_goals
  have hb5 := endK (by assumption); have HB5 := Lib.hid hb5; clear hb5
  go_wp2_with fail
  refine (wstr_any b b (Lib.byteCells acc) _ _ (bld_below HBL.out HB5.out) (by rw [Lib.byteCells_length, HZ.out]; omega) (by have := HB5.out.size; omega)).mono ?_; rintro en w6 ⟨rfl, hbw, hb6, _⟩
  have HBW := Lib.hid hbw; have HB6 := Lib.hid hb6
  clear hbw hb6
  go_wp2_with fail
  go_ret
  refine ⟨rfl, ?_, (HB5.out.mono (by omega)).trans HB6.out⟩; have := HBW.out
  have e : Lib.byteCells acc ++ Lib.strCells ⟨R.toArray⟩ = Lib.byteCells (acc ++ R) := by
   show Lib.byteCells acc ++ Lib.byteCells R = _
   unfold Lib.byteCells; rw [List.map_append]
  rw [e] at this; exact this
theorem KeyAt.keep {b : Nat} {p r : Addr} {A D : Option Addr} {n cap m capm : Nat} {ts : List Ty} {xs : List Value} {cs : List Cl} {acc acc' : Bs} {w w' : World} (h : KeyAt b p r A D n cap m capm ts xs cs acc w) (hb : Below b w w') (hB : IsBuilderF 94 5 b b (Lib.byteCells acc') w') : KeyAt b p r A D n cap m capm ts xs cs acc' w' :=
  ⟨h.p1, h.r1, (hb.cell h.p1).trans h.pbox, (hb.cell h.r1).trans h.rbox, h.cols.below hb, h.lay.below hb, hB, by have := hb.size; have := h.lt; omega⟩
set_option maxRecDepth 100000 in
set_option maxHeartbeats 1000000 in
theorem firstKey_any (w0 w : World) (b : Nat) (p r : Addr) (A D B : Option Addr) (n cap m capm l capl : Nat) (ts : List Ty) (xs : List Value) (cs : List Cl) (ps : List Int) (hsz : ∀ c ∈ cs, c.2.2.size ≤ 1200) (hn' : n ≤ maxLen) (hm' : m ≤ maxLen) (hl' : l ≤ 300) (hn : n = ts.length) (hm : m = cs.length) (hl : l = ps.length) (hck : rCheckL ts cs = 0) (hts : ts.length = cs.length) (hin : rIn ps cs.length = true) (hK : KeyAt b p r A D n cap m capm ts xs cs [] w) (hL : Lay w b B (intV ps)) (hE : ∀ w', Below b w w' → Env w') :
    Calls Tryz.prog 65 #[.slice B l capl, .func (.func 66) #[] #[.pointer (some p), .pointer (some r), .pointer (some ⟨b, 0, none⟩)]] w fun e w' => e = .returned (.int .i64 0) ∧ IsBuilderF 94 5 b b (Lib.byteCells (rKeyL ts cs ps)) w' ∧ Below b w w' := by
 have hkey := fun (w' : World) (i : Int) (q : Nat) (acc : Bs) (t : Ty) (c : Cl) (h0 : c.2.2.size ≤ 1200) (h1 : ts[q]? = some t) (h2 : cs[q]? = some c) (h3 : cCheck t c = 0) (h4 : acc.length ≤ 1000000) (h5 : KeyAt b p r A D n cap m capm ts xs cs acc w') (h6 : Env w') => key1_any w' i q b p r A D n cap m capm ts xs cs acc t c h0 hn' hm' hn hm h1 h2 h3 h4 h5 h6
 have HS := Lib.hid hsz; have HM := Lib.hid hm; have HN := Lib.hid hn; have HLn := Lib.hid hl; have HC := Lib.hid hck; have HI := Lib.hid hin; have HK := Lib.hid hK; have HL := Lib.hid hL; have HE := Lib.hid hE; have HX := Lib.hid hkey; have HT := Lib.hid hts
 clear hsz hn' hm' hn hm hl hck hts hin hK hL hE hkey
 go_enter Tryz.func65, Tryz.ntmps65
 go_wp2_with fail
 go_loopw [10] (fun id wr => ∃ k : Nat, k ≤ l ∧ id = .int .i64 k ∧ Below b w wr ∧ IsBuilderF 94 5 b b (Lib.byteCells (rKeyL ts cs (ps.take k))) wr ∧ (rKeyL ts cs (ps.take k)).length ≤ 3000 * k) (fun id _ => l - (RowKit.intOf id).toNat)
 case atStart => exact ⟨0, by omega, rfl, Below.refl _ _, HK.out.bld, by simp [rKeyL]⟩
 case round =>
  obtain ⟨k, hk, rfl, hb, hB, hlen⟩ := hrel
  by_cases hlk : k < l
  · have hki : (k : Int) < l := by omega
    obtain ⟨z, hp⟩ : ∃ c, ps[k]? = some c := ⟨_, List.getElem?_eq_getElem (by rw [← HLn.out]; exact hlk)⟩; obtain ⟨p0, p1⟩ := rIn_at HI.out hp; obtain ⟨q, rfl⟩ : ∃ q : Nat, z = q := ⟨z.toNat, by omega⟩; obtain ⟨g, o, rfl, hg, h1⟩ := HL.out.num hp; obtain ⟨c, hc⟩ : ∃ c, cs[q]? = some c := ⟨_, List.getElem?_eq_getElem (by omega)⟩; obtain ⟨t, ht⟩ : ∃ c, ts[q]? = some c := ⟨_, List.getElem?_eq_getElem (by rw [HT.out]; omega)⟩; have g1 := (hb.cell hg).trans h1; have hstep := rKeyL_take (t := t) (c := c) hp ht hc; have hz := HS.out c (List.mem_of_getElem? hc)
    have hbl := ybits_len t c (rCheckL_at HC.out ht hc); have hcall := HX.out wr k q (rKeyL ts cs (ps.take k)) t c hz ht hc (rCheckL_at HC.out ht hc) (by omega) (HK.out.keep hb hB) (HE.out wr hb); rw [← hstep] at hcall
    have hlen2 : (rKeyL ts cs (ps.take (k + 1))).length ≤ 3000 * (k + 1) := by rw [hstep, List.length_append]; omega
    have HQ := Lib.hid hcall; have HB := Lib.hid hb; have HG := Lib.hid hlen2
    clear hcall hb hlen hlen2 hstep hbl hp hc ht h1 hB p1 hz
    go_wp2_with fail
    refine HQ.out.mono ?_; rintro en w1 ⟨rfl, hB1, b1⟩
    have HB1 := Lib.hid hB1; have HW1 := Lib.hid (HB.out.trans b1)
    clear hB1 b1
    go_wp2_with fail
    go_roundw
    case rel => exact ⟨k + 1, by omega, by go_num, HW1.out, HB1.out, HG.out⟩
    case measure => simp [RowKit.intOf]; omega
  · have hki : ¬ (k : Int) < l := by omega
    have hkm : k = l := by omega
    rw [hkm, HLn.out, List.take_length] at hB
    have HB := Lib.hid hb; have HF := Lib.hid hB
    clear hb hB hlen hkm
    go_wp2_with fail
    go_ret
    exact ⟨rfl, HF.out, HB.out⟩
set_option maxRecDepth 100000 in
set_option maxHeartbeats 1000000 in
theorem rowKey_any (w : World) (A B D : Option Addr) (n cap l capl m capm : Nat) (ts : List Ty) (xs : List Value) (cs : List Cl) (ps : List Int) (hsz : ∀ c ∈ cs, c.2.2.size ≤ 1200) (hn' : n ≤ maxLen) (hl' : l ≤ 300) (hm' : m ≤ maxLen) (hn : n = ts.length) (hl : l = ps.length) (hm : m = cs.length) (hC : Cols w w.heap.size A ts xs) (hP : Lay w w.heap.size B (intV ps)) (hL : Lay w w.heap.size D (rowV cs)) (hE : Env w) :
    Calls Tryz.prog 34 #[.slice A n cap, .slice B l capl, .slice D m capm] w fun e w' => e = .returned (.tuple #[.string ⟨(rKey ts cs ps).toArray⟩, .int .i64 (rKeyE ts cs ps)]) ∧ Below w.heap.size w w' := by
 obtain ⟨V, hV⟩ : ∃ V, (w.alloc (.cells #[.slice A n cap] 22)).alloc (.cells #[.slice D m capm] 26) = V := ⟨_, rfl⟩
 have hb0 : Below w.heap.size w V := by rw [← hV]; exact ((Below.refl _ _).alloc (Nat.le_refl _) _).alloc (by simp) _
 have hs0 : V.heap.size = w.heap.size + 2 := by rw [← hV]; simp
 have c0 : V.cell? ⟨w.heap.size, 0, none⟩ = some (.slice A n cap) := by
  rw [← hV, Lib.cell_of_heap (by rw [Lib.alloc_old _ _ _ (by simp)]; exact heap_alloc_new w _)]; rfl
 have c1 : V.cell? ⟨w.heap.size + 1, 0, none⟩ = some (.slice D m capm) := by
  rw [← hV]; have := heap_alloc_new (w.alloc (.cells #[.slice A n cap] 22)) (.cells #[.slice D m capm] 26); rw [show (w.alloc (.cells #[.slice A n cap] 22)).heap.size = w.heap.size + 1 by simp] at this
  rw [Lib.cell_of_heap this]; rfl
 have hck := rowCheck_any V A D n cap m capm ts xs cs (fun c h => by have := hsz c h; omega) hn' hm' hn hm ((hC.below hb0).more hb0.size) ((hL.below hb0).more hb0.size) (hE.below hb0)
 have hwi := fun (w1 : World) (h : Below V.heap.size V w1) => within_any w1 B m l capl ps (by unfold maxLen; omega) hl (((hP.below hb0).more hb0.size |>.below h).more h.size)
 have HV := Lib.hid hV; have HB0 := Lib.hid hb0; have HS0 := Lib.hid hs0; have HW := Lib.hid hwi; have HE := Lib.hid hE; have HC := Lib.hid hC; have HP := Lib.hid hP; have HL := Lib.hid hL; have C0 := Lib.hid c0; have C1 := Lib.hid c1
 have HN := Lib.hid hn; have HM := Lib.hid hm; have HLn := Lib.hid hl; have HZ := Lib.hid hsz
 clear hV hb0 hs0 hwi hE hC hP hL hn hm hl hsz; unfold maxLen at hn' hm'
 by_cases hr : rCheck ts cs = 0
 · have hts : ts.length = cs.length := by
     by_cases h : ts.length = cs.length
     · exact h
     · unfold rCheck at hr; rw [if_neg h] at hr; omega
   have hrl : rCheckL ts cs = 0 := by unfold rCheck at hr; rw [if_pos hts] at hr; exact hr
   have he : rKeyE ts cs ps = rInE ps cs.length := by unfold rKeyE; rw [if_pos hr]
   rw [hr] at hck
   by_cases hin : rIn ps cs.length = true
   · have h1 : rInE ps cs.length = 0 := by unfold rInE; rw [if_pos hin]
     have h2 : rKey ts cs ps = rKeyL ts cs ps := by unfold rKey; rw [he, if_pos h1]
     rw [he, h1, h2]
     have h1m : rInE ps m = 0 := by rw [HM.out]; exact h1
     rw [h1m] at HW
     have HCK := Lib.hid hck; have HI := Lib.hid hin; have HRL := Lib.hid hrl; have HTS := Lib.hid hts
     clear hck hin hrl hts he h1 h1m h2 hr
     go_enter Tryz.func34, Tryz.ntmps34
     go_wp2_with fail
     rw [HV.out]; refine HCK.out.mono ?_; rintro en w1 ⟨rfl, b1⟩; have c3 := (b1.cell (cell_lt C1.out)).trans C1.out; have HB1 := Lib.hid b1; clear b1
     go_wp2_with fail
     refine (HW.out _ HB1.out).mono ?_; rintro en w2 ⟨rfl, b2⟩; have HB2 := Lib.hid (HB1.out.trans (b2.mono HB1.out.size)); clear b2
     go_wp2_with fail
     have hVb : Below V.heap.size V (w2.alloc (.cells #[.pointer none, .slice none 0 0] 94)) := HB2.out.alloc HB2.out.size _; have hbb : IsBuilderF 94 5 w2.heap.size w2.heap.size (Lib.byteCells []) (w2.alloc (.cells #[.pointer none, .slice none 0 0] 94)) := IsBuilderF.of (Lib.fresh_isBuilder 94 5 w2)
     have hsb : (w2.alloc (.cells #[.pointer none, .slice none 0 0] 94)).heap.size = w2.heap.size + 1 := by simp
     have hz2 : w.heap.size + 2 ≤ w2.heap.size := by have := HB2.out.size; have := HS0.out; omega
     have hbw : Below w.heap.size w (w2.alloc (.cells #[.pointer none, .slice none 0 0] 94)) := HB0.out.trans (hVb.mono HB0.out.size); obtain ⟨U, hU⟩ : ∃ U, w2.alloc (.cells #[.pointer none, .slice none 0 0] 94) = U := ⟨_, rfl⟩; rw [hU] at hVb hbb hsb hbw; rw [hU]
     have hKA : KeyAt w2.heap.size ⟨w.heap.size, 0, none⟩ ⟨w.heap.size + 1, 0, none⟩ A D n cap m capm ts xs cs [] U :=
       ⟨by show w.heap.size < _; omega, by show w.heap.size + 1 < _; omega, (hVb.cell (cell_lt C0.out)).trans C0.out, (hVb.cell (cell_lt C1.out)).trans C1.out, (HC.out.below hbw).more (by omega), (HL.out.below hbw).more (by omega), hbb, by omega⟩
     have hcall := firstKey_any w U w2.heap.size ⟨w.heap.size, 0, none⟩ ⟨w.heap.size + 1, 0, none⟩ A D B n cap m capm l capl ts xs cs ps HZ.out (by unfold maxLen; omega) (by unfold maxLen; omega) hl' HN.out HM.out HLn.out HRL.out HTS.out HI.out hKA ((HP.out.below hbw).more (by omega)) (fun w' h => HE.out.below (hbw.trans (h.mono (by omega))))
     have HQ := Lib.hid hcall; have HBW := Lib.hid hbw; have HZ2 := Lib.hid hz2; have HSB := Lib.hid hsb
     clear hcall hVb hbb hsb hbw hU hz2 hKA
     go_wp2_with fail
     refine HQ.out.mono ?_; rintro en w3 ⟨rfl, hB3, b3⟩
     have HB3 := Lib.hid hB3; have HW3 := Lib.hid (HBW.out.trans (b3.mono (by have := HZ2.out; omega))); have HX3 := Lib.hid b3
     clear hB3 b3
     go_wp2_with fail
     refine (Tryz.Builder_String_any_k _ _ _ _ HB3.out (by have := HX3.out.size; have := HSB.out; omega)).mono ?_; rintro en w4 ⟨rfl, _, b4, _⟩; have HW4 := Lib.hid (HW3.out.trans (b4.mono (by have := HZ2.out; omega))); clear b4
     go_wp2_with fail
     go_ret2
     exact ⟨rfl, HW4.out⟩
   · have h1 : rInE ps cs.length = 6 := by unfold rInE; rw [if_neg hin]
     have h2 : rKey ts cs ps = [] := by unfold rKey; rw [he, if_neg (by omega)]
     rw [he, h1, h2]
     have h1m : rInE ps m = 6 := by rw [HM.out]; exact h1
     rw [h1m] at HW; have HCK := Lib.hid hck; clear hck hin hrl hts he h1 h1m h2 hr
     go_enter Tryz.func34, Tryz.ntmps34
     go_wp2_with fail
     rw [HV.out]; refine HCK.out.mono ?_; rintro en w1 ⟨rfl, b1⟩; have c3 := (b1.cell (cell_lt C1.out)).trans C1.out; have HB1 := Lib.hid b1; clear b1
     go_wp2_with fail
     refine (HW.out _ HB1.out).mono ?_; rintro en w2 ⟨rfl, b2⟩; have HB2 := Lib.hid (HB0.out.trans ((HB1.out.trans (b2.mono HB1.out.size)).mono HB0.out.size)); clear b2
     go_wp2_with fail
     go_ret2
     exact ⟨rfl, HB2.out.alloc HB2.out.size _⟩
 · have he : rKeyE ts cs ps = rCheck ts cs := by unfold rKeyE; rw [if_neg hr]
   have h2 : rKey ts cs ps = [] := by unfold rKey; rw [he, if_neg hr]
   rw [he, h2]
   generalize rCheck ts cs = E at *
   have hne : (E == 0) = false := by simpa using hr
   have hne2 : (E != 0) = true := by simpa using hr
   have HCK := Lib.hid hck; clear hck hr he h2
   go_enter Tryz.func34, Tryz.ntmps34
   go_wp2_with fail
   rw [HV.out]; refine HCK.out.mono ?_; rintro en w1 ⟨rfl, b1⟩; have HB1 := Lib.hid (HB0.out.trans (b1.mono HB0.out.size)); clear b1
   go_wp2_with fail
   go_ret2
   exact ⟨rfl, HB1.out.alloc HB1.out.size _⟩
end Go.Proofs.YtikpmmipopmjaaaGreatDoor
set_option linter.unusedSimpArgs false
namespace Go.Ms
open Go.RowKit Go.Lib
theorem Lay.off {W : World} {B : Nat} {A : Option Addr} {xs : List Value} (h : Lay W B A xs) {b i : Nat} {a1 a2 : Option Addr} {n1 c1 n2 c2 : Nat} {T : TypeId} (hb : W.heap[b]? = some (.cells #[.slice a1 n1 c1, .slice a2 n2 c2] T (0, 0))) (hx : ∀ x ∈ xs, ∀ a n c, x ≠ .slice a n c) (y : Value) : Lay (W.setCell ⟨b, i, none⟩ y) B A xs := by
 intro j u hu
 obtain ⟨g, o, e, hlt, hc⟩ := h j u hu; refine ⟨g, o, e, hlt, ?_⟩
 have hne : g ≠ b := by
  rintro rfl
  simp [World.cell?, hb] at hc
  have hm := List.mem_of_getElem? hu
  rcases hoj : o + j with _ | _ | k
  · rw [hoj] at hc; simp at hc; exact hx u hm _ _ _ hc.symm
  · rw [hoj] at hc; simp at hc; exact hx u hm _ _ _ hc.symm
  · rw [hoj] at hc; simp at hc
 have hk : (W.setCell ⟨b, i, none⟩ y).heap[g]? = W.heap[g]? := Below.heap_setCell W ⟨b, i, none⟩ y g hne; unfold World.cell? at hc ⊢; simp only at hc ⊢; rw [hk]; exact hc
theorem colV_noslice (l : List Co) : ∀ x ∈ colV l, ∀ a n c, x ≠ .slice a n c := by
 intro x hx a n c e
 obtain ⟨d, _, hd⟩ := List.mem_flatMap.1 hx; subst e
 simp [coV] at hd
theorem intV_noslice (l : List Int) : ∀ x ∈ intV l, ∀ a n c, x ≠ .slice a n c := by
 intro x hx a n c e
 obtain ⟨d, _, hd⟩ := List.mem_map.1 hx; subst e
 cases hd
end Go.Ms
namespace Go.Proofs.YtikpmmipopmjaaaGreatDoor
open Go.RowKit Go.Ms Go.Lib Go.Shelf Go.Rel
theorem two_own {w : World} {b : Nat} {x y : Value} {T : TypeId} (h : w.heap[b]? = some (.cells #[x, y] T (0, 0))) (u v : Value) : ((w.setCell ⟨b, 0, none⟩ u).setCell ⟨b, 1, none⟩ v).heap[b]? = some (.cells #[u, v] T (0, 0)) := two_set1 (two_set0 h u) v
set_option maxHeartbeats 1000000 in
theorem read12_any {S : ByteArray} {s : Sc} (hs : S.size ≤ 1000) (h1 : s.1.length ≤ 100000) (h2 : s.2.length ≤ 100000) (hr : (Lib.replaceAll S.data.toList [47] [10]).length ≤ 20000) (hp : parseD (Lib.replaceAll S.data.toList [47] [10]) = (s.1, s.2, 0, 0)) (w : World) (hE : Env w) :
    Calls Tryz.prog 31 #[.string S] w fun e w' => ∃ r : SRef, e = .returned (.agg #[.slice r.a r.n r.c, .slice r.b r.m r.d]) ∧ r.n = s.1.length ∧ r.m = s.2.length ∧ ScLay w' w'.heap.size r s ∧ Below w.heap.size w w' := by
 obtain ⟨X, hX⟩ : ∃ X, X = w.alloc (.cells #[.slice none 0 0, .slice none 0 0] 25) := ⟨_, rfl⟩
 have bX : Below w.heap.size w X := by rw [hX]; exact (Below.refl _ w).alloc (Nat.le_refl _) _
 have qX : X.heap[w.heap.size]? = some (.cells #[.slice none 0 0, .slice none 0 0] 25 (0, 0)) := by rw [hX]; exact block_new _ _
 obtain ⟨m, hm⟩ := (hE.below bX).maxl; have hcb := Lib.countB_le ⟨#[47]⟩ (by decide) S.size S (Nat.le_refl _)
 have cr := Tryz.strings_ReplaceAll S ⟨#[47]⟩ ⟨#[10]⟩ m X (by omega) hm (by decide) (by
   have h2 : (⟨#[10]⟩ : ByteArray).size = 1 := rfl
   rw [h2]; omega)
 rw [show (⟨#[47]⟩ : ByteArray).data.toList = [47] from rfl, show (⟨#[10]⟩ : ByteArray).data.toList = [10] from rfl] at cr
 generalize Lib.replaceAll S.data.toList [47] [10] = L at cr hr hp
 have hpar := fun (W : World) (hb : Below X.heap.size X W) => parse_is (S := ⟨L.toArray⟩) (w := W) (D := (s.1, s.2, 0, 0)) (by show L.toArray.size ≤ 20000; rw [List.size_toArray]; omega) ((hE.below bX).below hb) hp rfl rfl rfl
 have HR := Lib.hid cr; have HP := Lib.hid hpar; have BX := Lib.hid bX; have QX := Lib.hid qX
 clear cr hpar bX qX hm hcb hE hp
 go_enter Tryz.func31, Tryz.ntmps31
 go_wp2_with fail
 rw [← hX]; clear hX; refine HR.out.mono ?_; rintro en w1 ⟨rfl, b1⟩
 have B1 := Lib.hid (BX.out.trans (b1.mono BX.out.size)); have Q1 := Lib.hid (block_kept QX.out b1); have HP1 := Lib.hid (HP.out w1 b1)
 clear b1
 go_wp2_with fail
 refine HP1.out.mono ?_; rintro en w2 ⟨A, B, c, d, rfl, l1, l2, b2⟩; have q2 := block_kept Q1.out b2; have q3 := block_next q2 (.cells #[.slice A s.1.length c, .slice B s.2.length d] 25); have f0 := frozen_of_block (i := 0) q3; have f1 := frozen_of_block (i := 1) q3; have y0 := cell_of_block (i := 0) q3 rfl; have y1 := cell_of_block (i := 1) q3 rfl
 have Q3 := Lib.hid q3; have B2 := Lib.hid (B1.out.trans (b2.mono B1.out.size)); have L1 := Lib.hid l1; have L2 := Lib.hid l2
 clear b2 q2 q3 l1 l2
 go_wp2_with fail
 have B3 := B2.out.alloc B2.out.size (.cells #[.slice A s.1.length c, .slice B s.2.length d] 25); have bl := (Below.refl w2.heap.size w2).alloc (Nat.le_refl _) (.cells #[.slice A s.1.length c, .slice B s.2.length d] 25); have hq4 := two_own Q3.out (.slice A s.1.length c) (.slice B s.2.length d); refine bodyPost_ret (results_cell_row (P := Tryz.prog) rfl _ _ w.heap.size 25 _ (0, 0) _ rfl hq4 Tryz.underlying25 rfl (by kernel_rfl)) rfl ?_; have q5 := Go.Ms.two_set0 Q3.out (.slice A s.1.length c)
 refine ⟨⟨A, s.1.length, c, B, s.2.length, d⟩, rfl, rfl, rfl, ⟨rfl, rfl, h1, h2, ?_, ?_⟩, (B3.setCell (p := ⟨w.heap.size, 0, none⟩) (Nat.le_refl _) _).setCell (p := ⟨w.heap.size, 1, none⟩) (Nat.le_refl _) _⟩
 · simp only [World.size_setCell]; exact (((L1.out.below bl).more bl.size).off Q3.out (colV_noslice _) _).off q5 (colV_noslice _) _
 · simp only [World.size_setCell]; exact (((L2.out.below bl).more bl.size).off Q3.out (intV_noslice _) _).off q5 (intV_noslice _) _
end Go.Proofs.YtikpmmipopmjaaaGreatDoor
