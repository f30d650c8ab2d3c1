/- Evolve: a row carried along a chain: the package's answer. Schemas: the examples, read (closed). -/
import Derived.Test.YtikpmmipopmjaaaGreatDoorYQbe
set_option linter.unusedVariables false
set_option linter.unusedSimpArgs false
namespace Go.Ms
open Go.RowKit Go.Lib
def carryRow (l : List Sc) (f k : Nat) (r : List Cl) : List Cl := evAlong (l.getD (f - 1) zSc) ((l.drop f).take k) r
theorem carryRow_succ {l : List Sc} {f k : Nat} (h1 : 1 ≤ f) (h2 : f + k < l.length) (r : List Cl) : carryRow l f (k + 1) r = evMoved (l.getD (f + k - 1) zSc).1 (l.getD (f + k) zSc).1 (carryRow l f k r) := by
 have hd : (l.drop f)[k]? = some (l.getD (f + k) zSc) := by rw [List.getElem?_drop, List.getD_eq_getElem?_getD, List.getElem?_eq_getElem h2]; rfl
 have e : (l.drop f).take (k + 1) = (l.drop f).take k ++ [l.getD (f + k) zSc] := by rw [List.take_add_one, hd]; rfl
 have hl := last_drop (L := l) (p := f) (q := f + k) h1 (by omega) (by omega); rw [show f + k - f = k by omega] at hl; unfold carryRow; rw [e, along_app, hl]; rfl
theorem carryRow_len {l : List Sc} {f : Nat} (h1 : 1 ≤ f) {r : List Cl} (hr : (l.getD (f - 1) zSc).1.length = r.length) : ∀ (k : Nat), f + k ≤ l.length → (carryRow l f k r).length = (l.getD (f + k - 1) zSc).1.length
  | 0, h => hr.symm
  | k + 1, h => by rw [carryRow_succ h1 (by omega), moved_len]; rfl
theorem carry_no {l : List Sc} {f t : Int} {r : List Cl} (h : ¬ evChain l = 0) : evCarry l f t r = ([], evChain l) := by unfold evCarry; rw [if_neg h]
theorem carry_out {l : List Sc} {f t : Int} {r : List Cl} (h : evChain l = 0) (h2 : f < 1 ∨ t < f ∨ (l.length : Int) < t) : evCarry l f t r = ([], 131) := by unfold evCarry; rw [if_pos h, if_pos h2]
theorem carry_row {l : List Sc} {f t : Nat} {r : List Cl} (h : evChain l = 0) (h1 : 1 ≤ f) (h2 : f ≤ t) (h3 : t ≤ l.length) (hr : ¬ rCheck (coTys (l.getD (f - 1) zSc).1) r = 0) : evCarry l f t r = ([], rCheck (coTys (l.getD (f - 1) zSc).1) r) := by
 unfold evCarry; rw [if_pos h, if_neg (by omega), Int.toNat_natCast, if_neg hr]
theorem carry_yes {l : List Sc} {f t : Nat} {r : List Cl} (h : evChain l = 0) (h1 : 1 ≤ f) (h2 : f ≤ t) (h3 : t ≤ l.length) (hr : rCheck (coTys (l.getD (f - 1) zSc).1) r = 0) : evCarry l f t r = (carryRow l f (t - f) r, 0) := by
 unfold evCarry carryRow; rw [if_pos h, if_neg (by omega), Int.toNat_natCast, if_pos hr, show ((t : Int) - f).toNat = t - f by omega]
theorem getD_at {l : List Sc} {i : Nat} (h : i < l.length) : l[i]? = some (l.getD i zSc) := by rw [List.getD_eq_getElem?_getD, List.getElem?_eq_getElem h]; rfl
def isOwnC (B : Nat) (T : TypeId) (l : List Cl) : Value → World → Prop := fun v w => OwnC w B T v l
theorem isOwnC_stable (B : Nat) (T : TypeId) (l : List Cl) : Go.Rel.Stable (isOwnC B T l) := fun v w w' h hb => own_below h hb
end Go.Ms
namespace Go.Proofs.YtikpmmipopmjaaaGreatDoor
open Go.RowKit Go.Ms Go.Lib Go.Shelf Go.Rel
set_option maxRecDepth 100000 in
set_option maxHeartbeats 4000000 in
theorem carry_any (w : World) (L : Option Addr) (n cap : Nat) (rs : List SRef) (ss : List Sc) (f t : Int) (C : Option Addr) (q qcap : Nat) (r : List Cl) (hn' : n ≤ 100000) (hn : n = rs.length) (hL : ScsLay w w.heap.size L rs ss) (hz : ∀ s ∈ ss, ScSz s.1)
    (hf : -9223372036854775808 ≤ f ∧ f ≤ 9223372036854775807) (ht : -9223372036854775808 ≤ t ∧ t ≤ 9223372036854775807) (hr : RwLay w C q r) (hE : Env w) :
    Calls Tryz.prog 23 #[.slice L n cap, .int .i64 f, .int .i64 t, .slice C q qcap] w (RowPost w (evCarry ss f t r).1 (evCarry ss f t r).2) := by
 have hns : n = ss.length := hn.trans hL.len; have hch := chain_any w L n cap rs ss hn' hn hL hz hE
 by_cases h0 : evChain ss = 0
 case neg =>
  rw [carry_no h0]
  generalize evChain ss = Z at hch h0 ⊢
  have h0' : (Z != 0) = true := by simpa using h0
  have HC := hh_ hch; clear hch hn hL hz hr hE hns
  go_enter Tryz.func23, Tryz.ntmps23
  go_wp2_with fail
  refine HC.out.mono ?_; rintro en w1 ⟨rfl, b1⟩; have B1 := hh_ b1; clear b1
  go_wp2_with fail
  go_ret2
  exact ⟨_, rfl, World.ownsRow_nil _ _ _ _, B1.out⟩
 rw [h0] at hch
 by_cases ho : f < 1 ∨ t < f ∨ (ss.length : Int) < t
 · rw [carry_out h0 ho]
   have HC := hh_ hch; have HO := hh_ ho; have HNS := hh_ hns
   clear hch hn hL hz hr hE hns ho h0
   by_cases c1 : f < 1
   · go_enter Tryz.func23, Tryz.ntmps23
     go_wp2_with fail
     refine HC.out.mono ?_; rintro en w1 ⟨rfl, b1⟩; have B1 := hh_ b1; clear b1
     go_wp2_with fail
     go_ret2
     exact ⟨_, rfl, World.ownsRow_nil _ _ _ _, B1.out⟩
   · by_cases c2 : t < f
     · go_enter Tryz.func23, Tryz.ntmps23
       go_wp2_with fail
       refine HC.out.mono ?_; rintro en w1 ⟨rfl, b1⟩; have B1 := hh_ b1; clear b1
       go_wp2_with fail
       go_ret2
       exact ⟨_, rfl, World.ownsRow_nil _ _ _ _, B1.out⟩
     · have c3 : (n : Int) < t := by have := HO.out; have := HNS.out; omega
       go_enter Tryz.func23, Tryz.ntmps23
       go_wp2_with fail
       refine HC.out.mono ?_; rintro en w1 ⟨rfl, b1⟩; have B1 := hh_ b1; clear b1
       go_wp2_with fail
       go_ret2
       exact ⟨_, rfl, World.ownsRow_nil _ _ _ _, B1.out⟩
 obtain ⟨F, rfl⟩ : ∃ F : Nat, f = F := ⟨f.toNat, by omega⟩; obtain ⟨T, rfl⟩ : ∃ T : Nat, t = T := ⟨t.toNat, by omega⟩
 have h1 : 1 ≤ F := by omega
 have h2 : F ≤ T := by omega
 have h3 : T ≤ ss.length := by omega
 have i1 : ¬ (F : Int) < 1 := by omega
 have i2 : ¬ (T : Int) < F := by omega
 have i3 : ¬ (n : Int) < T := by omega
 have i4 : (1 : Int) ≤ F := by omega
 have i5 : (F : Int) - 1 < n := by omega
 have i6 : F - 1 < n := by omega
 have hw := iw_ ((F : Int) - 1) (by omega); have hsp := getD_at (l := ss) (i := F - 1) (by omega); obtain ⟨rp, hrp⟩ : ∃ r, rs[F - 1]? = some r := ⟨_, List.getElem?_eq_getElem (by rw [← hn]; omega)⟩; obtain ⟨g, o, eL, hg⟩ := hL.at_ hrp; subst eL
 have h5 := fun (W : World) (hb : Below w.heap.size w W) => rowCheck_any W rp.a C rp.n rp.c q qcap (coTys (ss.getD (F - 1) zSc).1) (colV (ss.getD (F - 1) zSc).1) r hr.sz (by have := (hL.each _ _ _ hrp hsp).nn; unfold maxLen; omega) (by have := hr.qq; unfold maxLen; omega) (by rw [coTys_len]; exact (hL.each _ _ _ hrp hsp).n) hr.ql ((hL.each _ _ _ hrp hsp).to hb).la.cols (hr.to hb).lay (hE.below hb)
 by_cases hc : rCheck (coTys (ss.getD (F - 1) zSc).1) r = 0
 case neg =>
  rw [carry_row h0 h1 h2 h3 hc]
  generalize rCheck (coTys (ss.getD (F - 1) zSc).1) r = Z at h5 hc ⊢
  have hcz : (Z != 0) = true := by simpa using hc
  have HC := hh_ hch; have H5 := hh_ h5; have G := hh_ hg
  clear hch hn hL hz hr hE hns h0 ho hc h5 hsp hrp hg h1 h2 h3
  go_enter Tryz.func23, Tryz.ntmps23
  go_wp2_with fail
  refine HC.out.mono ?_; rintro en w1 ⟨rfl, b1⟩; have B1 := hh_ b1; have g1 := (G.out.below b1).c0; clear b1
  go_wp2_with fail
  refine (H5.out _ B1.out).mono ?_; rintro en w2 ⟨rfl, b2⟩; have B2 := hh_ (B1.out.trans (b2.mono B1.out.size)); clear b2 g1
  go_wp2_with fail
  go_ret2
  exact ⟨_, rfl, World.ownsRow_nil _ _ _ _, B2.out⟩
 have hlen := (rCheck_parts hc).1; rw [coTys_len] at hlen; have hok := chain_ok h0
 have hcl := fun (W : World) (hb : Below w.heap.size w W) => clone_any W C q qcap r hr.qq hr.ql (hr.to hb).lay
 rw [carry_yes h0 h1 h2 h3 hc]; rw [hc] at h5
 have HC := hh_ hch; have H5 := hh_ h5; have G := hh_ hg; have HCL := hh_ hcl; have HOK := hh_ hok; have HLEN := hh_ hlen; have HN := hh_ hn; have HNS := hh_ hns; have HL := hh_ hL; have HR := hh_ hr; have P1 := hh_ h1; have P2 := hh_ h2; have P3 := hh_ h3
 clear hch hn hL hz hr hE hns h0 ho hc h5 hsp hg hcl hok hlen h1 h2 h3
 go_enter Tryz.func23, Tryz.ntmps23
 go_wp2_with fail
 refine HC.out.mono ?_; rintro en w1 ⟨rfl, b1⟩; have B1 := hh_ b1; have g1 := (G.out.below b1).c0; clear b1
 go_wp2_with fail
 refine (H5.out _ B1.out).mono ?_; rintro en w2 ⟨rfl, b2⟩; have B2 := hh_ (B1.out.trans (b2.mono B1.out.size)); clear b2 g1
 go_wp2_with fail
 refine (HCL.out _ B2.out).mono ?_; rintro en w3 ⟨v0, rfl, ho3, b3⟩
 have B3 := hh_ (B2.out.trans (b3.mono B2.out.size)); have O3 := hh_ (own_more ho3 B2.out.size)
 clear b3 ho3
 go_wp2_with fail
 go_loopw [12, 13] (fun v i wr => ∃ j : Nat, i = .int .i64 j ∧ F ≤ j ∧ j ≤ T ∧ OwnC wr w.heap.size 57 v (carryRow ss F (j - F) r) ∧ Below w.heap.size w wr) (fun _ i _ => T - (RowKit.intOf i).toNat)
 case atStart => exact ⟨F, rfl, Nat.le_refl _, P2.out, by rw [Nat.sub_self]; exact O3.out, B3.out⟩
 case round =>
  obtain ⟨j, rfl, hj1, hj2, hown, hb⟩ := hrel; obtain ⟨A3, c3, rfl, hc3, hcm3⟩ := yown_slice hown
  by_cases hlt : j < T
  · have hlti : (j : Int) < T := by omega
    have hsn := carryRow_succ (l := ss) (f := F) (k := j - F) P1.out (by have := P3.out; omega) r; have hcr := carryRow_len (l := ss) P1.out HLEN.out (j - F) (by have := P3.out; omega); rw [show F + (j - F) = j by omega] at hsn hcr; have hP3 := P3.out; have hNS := HNS.out; have hP1 := P1.out; have hsa := getD_at (l := ss) (i := j - 1) (by omega); have hsb := getD_at (l := ss) (i := j) (by omega); obtain ⟨ra, hra⟩ : ∃ r, rs[j - 1]? = some r := ⟨_, List.getElem?_eq_getElem (by rw [← HN.out]; omega)⟩; obtain ⟨rb, hrb⟩ : ∃ r, rs[j]? = some r := ⟨_, List.getElem?_eq_getElem (by rw [← HN.out]; omega)⟩
    have pa := (HL.out.each _ _ _ hra hsa).to hb; have pb := (HL.out.each _ _ _ hrb hsb).to hb; obtain ⟨ua, ia⟩ := ids_of (HOK.out _ (List.mem_of_getElem? hsa)); obtain ⟨-, ib⟩ := ids_of (HOK.out _ (List.mem_of_getElem? hsb)); obtain ⟨g', o', e1, ga⟩ := HL.out.at_ hra
    cases e1
    obtain ⟨g', o', e2, gb⟩ := HL.out.at_ hrb
    cases e2
    have lR := Lay.of_own hown le_
    generalize hSA : ss.getD (j - 1) zSc = sa at hsa hsn hcr pa ua ia
    generalize hSB : ss.getD j zSc = sb at hsb hsn pb ib
    generalize hRR : carryRow ss F (j - F) r = R at hown hsn hcr lR hc3
    have hm := fun (W : World) (hb2 : Below wr.heap.size wr W) => moved_any ra.a ra.b ra.n ra.c ra.m ra.d sa.1 sa.2 rb.a rb.b rb.n rb.c rb.m rb.d sb.1 sb.2 A3 R.length c3 R W pa.n pa.nn (pa.to hb2).la ua ia pb.n pb.nn (pb.to hb2).la (pb.to hb2).lb ib rfl ((lR.below hb2).more hb2.size) (by rw [pa.n, hcr])
    have hwj := iw_ ((j : Int) - 1) (by omega)
    have GA := hh_ ((ga.below hb).more hb.size); have GB := hh_ ((gb.below hb).more hb.size); have HM := hh_ hm; have HSN := hh_ hsn; have HWJ := hh_ hwj; have HB := hh_ hb; have J1 := hh_ (show 1 ≤ j by omega); have J2 := hh_ (show j < n by omega)
    clear ga gb hm hsn hwj hb hown lR pa pb ua ia ib hsa hsb hra hrb hcr hSA hSB hRR hP3 hNS hP1 i4 i5 i6 hw
    go_wp2_with fail
    refine wp_region_last (l := [_, _, _, _, _, _, _, _, _, _, _]) (o := _) [isV (.slice (some ⟨g, o, none⟩) n cap), isV (.int .i64 (j : Nat)), isV (.int .i64 ((j : Int) - 1)), isV (.pointer (some ⟨g, o + (j - 1) * 2, none⟩)), isV (.agg #[.slice ra.a ra.n ra.c, .slice ra.b ra.m ra.d]), isV (.slice (some ⟨g, o, none⟩) n cap), isV (.int .i64 (j : Nat)), isV (.pointer (some ⟨g, o + j * 2, none⟩)), isV (.agg #[.slice rb.a rb.n rb.c, .slice rb.b rb.m rb.d]), isV (.slice A3 R.length c3), isOwnC w.heap.size 57 (evMoved sa.1 sb.1 R)] (by kernel_rfl) (by kernel_rfl) (by kernel_rfl) (by kernel_rfl) rfl ?_ ?_
    ·
      refine Rel.rb ?_; refine Rel.rb ?_; refine rf (fun ev wo E => ?_) ?_
      · have e52 : ev (.tmp 52) = .int .i64 (j : Nat) := E.e 0; have ec := E.const; have h0 := HWJ.out; go_simp; exact rv
      refine rf (fun ev wo E => ?_) ?_
      · have e51 : ev (.tmp 51) = .slice (some ⟨g, o, none⟩) n cap := E.e 0; have e53 : ev (.tmp 53) = .int .i64 ((j : Int) - 1) := E.e 1; have h0 := J1.out; have h1 := J2.out
        have h2 : (0 : Int) ≤ (j : Int) - 1 := by omega
        have h3 : (j : Int) - 1 < n := by omega
        have h4 : (1 : Int) ≤ j := by omega
        go_simp; exact rv
      refine rf (fun ev wo E => ?_) ?_
      · have e54 : ev (.tmp 54) = .pointer (some ⟨g, o + (j - 1) * 2, none⟩) := E.e 0; have hx0 := (E.bel.cell GA.out.lt).trans GA.out.c0; have hx1 := (E.bel.cell GA.out.lt).trans GA.out.c1; go_simp; exact rv
      refine Rel.rb ?_; refine Rel.rb ?_; refine rf (fun ev wo E => ?_) ?_
      · have e56 : ev (.tmp 56) = .slice (some ⟨g, o, none⟩) n cap := E.e 0; have e57 : ev (.tmp 57) = .int .i64 (j : Nat) := E.e 1; have h1 := J2.out
        have h3 : (j : Int) < n := by omega
        go_simp; exact rv
      refine rf (fun ev wo E => ?_) ?_
      · have e58 : ev (.tmp 58) = .pointer (some ⟨g, o + j * 2, none⟩) := E.e 0; have hx0 := (E.bel.cell GB.out.lt).trans GB.out.c0; have hx1 := (E.bel.cell GB.out.lt).trans GB.out.c1; go_simp; exact rv
      refine Rel.rb ?_; refine ⟨prem_of (WantOk.free rfl) (isOwnC_stable _ _ _) (fun ev wo E => ?_), ?_⟩
      · have e55 : ev (.tmp 55) = .agg #[.slice ra.a ra.n ra.c, .slice ra.b ra.m ra.d] := E.e 0; have e59 : ev (.tmp 59) = .agg #[.slice rb.a rb.n rb.c, .slice rb.b rb.m rb.d] := E.e 1; have e60 : ev (.tmp 60) = .slice A3 R.length c3 := E.e 2; have ef := E.func; go_simp; refine relUpon_enter ((HM.out wo E.bel).mono ?_); rintro e w' ⟨v, rfl, ho, hb⟩; exact ⟨_, rfl, hb, own_more ho (Nat.le_trans HB.out.size E.bel.size)⟩
      trivial
    · intro wz bz
      (iterate 10 rintro _ rfl)
      intro v61 h61
      have B4 := hh_ (HB.out.trans (bz.mono HB.out.size)); have H61 := hh_ h61
      clear bz h61; simp only [relEnd]; unfold Oper.wp; go_simp
      go_wp2_with fail
      go_roundw
      case rel =>
       refine ⟨j + 1, by go_num, by omega, by omega, ?_, B4.out⟩; rw [show j + 1 - F = j - F + 1 by omega, HSN.out]; exact H61.out
      case measure => simp [RowKit.intOf]; omega
  · have hlti : ¬ (j : Int) < T := by omega
    obtain rfl : j = T := by omega
    have HO := hh_ hown; have HB := hh_ hb
    clear hown hb
    go_wp2_with fail
    go_ret2
    exact ⟨_, rfl, HO.out, HB.out⟩
end Go.Proofs.YtikpmmipopmjaaaGreatDoor
namespace Go.Ms
open Go.RowKit Go.Lib
end Go.Ms
