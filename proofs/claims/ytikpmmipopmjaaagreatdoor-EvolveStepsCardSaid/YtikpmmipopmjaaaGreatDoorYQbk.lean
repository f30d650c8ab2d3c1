/- The reference of evolve: a row carried along a chain. Evolve's laws: what few, cells and the copies answer, as lists that lie in memory. Evolve's laws: the examples' texts, read. Rows: whether two are the same; a row copied. Rows: lists held against each other and copied, by the statements' helpers. -/
import Derived.Test.YtikpmmipopmjaaaGreatDoorYQbj
set_option maxRecDepth 100000
set_option linter.unusedVariables false
set_option linter.unusedSimpArgs false
namespace Go.Proofs.YtikpmmipopmjaaaGreatDoor
open Go.RowKit Go.Ms Go.Lib Go.Shelf Go.Rel
set_option maxHeartbeats 4000000 in
theorem rcarry_any (w : World) (L : Option Addr) (n cap : Nat) (rs : List SRef) (ss : List Sc) (f t : Int) (C : Option Addr) (q qcap : Nat) (r : List Cl) (hn' : n ≤ 100000) (hn : n = rs.length) (hL : ScsLay w w.heap.size L rs ss) (hz : ∀ s ∈ ss, ScR s.1)
    (hf : -9223372036854775808 ≤ f ∧ f ≤ 9223372036854775807) (ht : -9223372036854775808 ≤ t ∧ t ≤ 9223372036854775807) (hr : RwLay w C q r) (hok : CsOk r) :
    Calls Tryz.prog 24 #[.slice L n cap, .int .i64 f, .int .i64 t, .slice C q qcap] w (RowPost w (evCarry ss f t r).1 (evCarry ss f t r).2) := by
 have hns : n = ss.length := hn.trans hL.len; have hch := rchain_any w L n cap rs ss hn' hn hL hz
 by_cases h0 : evChain ss = 0
 case neg =>
  rw [carry_no h0]
  generalize evChain ss = Z at hch h0 ⊢
  have h0' : (Z != 0) = true := by simpa using h0
  have HC := hh_ hch; clear hch hn hL hz hr hok hns
  go_enter Tryz.func24, Tryz.ntmps24
  go_wp2_with fail
  refine HC.out.mono ?_; rintro en w1 ⟨rfl, b1⟩; have B1 := hh_ b1; clear b1
  go_wp2_with fail
  go_ret2
  exact ⟨_, rfl, World.ownsRow_nil _ _ _ _, B1.out⟩
 rw [h0] at hch
 by_cases ho : f < 1 ∨ t < f ∨ (ss.length : Int) < t
 · rw [carry_out h0 ho]
   have HC := hh_ hch; have HO := hh_ ho; have HNS := hh_ hns
   clear hch hn hL hz hr hok hns ho h0
   by_cases c1 : f < 1
   · go_enter Tryz.func24, Tryz.ntmps24
     go_wp2_with fail
     refine HC.out.mono ?_; rintro en w1 ⟨rfl, b1⟩; have B1 := hh_ b1; clear b1
     go_wp2_with fail
     go_ret2
     exact ⟨_, rfl, World.ownsRow_nil _ _ _ _, B1.out⟩
   · by_cases c2 : t < f
     · go_enter Tryz.func24, Tryz.ntmps24
       go_wp2_with fail
       refine HC.out.mono ?_; rintro en w1 ⟨rfl, b1⟩; have B1 := hh_ b1; clear b1
       go_wp2_with fail
       go_ret2
       exact ⟨_, rfl, World.ownsRow_nil _ _ _ _, B1.out⟩
     · have c3 : (n : Int) < t := by have := HO.out; have := HNS.out; omega
       go_enter Tryz.func24, Tryz.ntmps24
       go_wp2_with fail
       refine HC.out.mono ?_; rintro en w1 ⟨rfl, b1⟩; have B1 := hh_ b1; clear b1
       go_wp2_with fail
       go_ret2
       exact ⟨_, rfl, World.ownsRow_nil _ _ _ _, B1.out⟩
 obtain ⟨F, rfl⟩ : ∃ F : Nat, f = F := ⟨f.toNat, by omega⟩; obtain ⟨T, rfl⟩ : ∃ T : Nat, t = T := ⟨t.toNat, by omega⟩
 have h1 : 1 ≤ F := by omega
 have h2 : F ≤ T := by omega
 have h3 : T ≤ ss.length := by omega
 have i1 : ¬ (F : Int) < 1 := by omega
 have i2 : ¬ (T : Int) < F := by omega
 have i3 : ¬ (n : Int) < T := by omega
 have i4 : (1 : Int) ≤ F := by omega
 have i5 : (F : Int) - 1 < n := by omega
 have i6 : F - 1 < n := by omega
 have hw := iw_ ((F : Int) - 1) (by omega); have hsp := getD_at (l := ss) (i := F - 1) (by omega); obtain ⟨rp, hrp⟩ : ∃ r, rs[F - 1]? = some r := ⟨_, List.getElem?_eq_getElem (by rw [← hn]; omega)⟩; obtain ⟨g, o, eL, hg⟩ := hL.at_ hrp; subst eL
 have h5 := fun (W : World) (hb : Below w.heap.size w W) => rrowcheck_any W rp.a C rp.n rp.c q qcap (coTys (ss.getD (F - 1) zSc).1) (colV (ss.getD (F - 1) zSc).1)  r hok (by have := (hL.each _ _ _ hrp hsp).nn; unfold maxLen; omega) (by have := hr.qq; unfold maxLen; omega) (by rw [coTys_len]; exact (hL.each _ _ _ hrp hsp).n) hr.ql ((hL.each _ _ _ hrp hsp).to hb).la.cols (hr.to hb).lay
 by_cases hc : rCheck (coTys (ss.getD (F - 1) zSc).1) r = 0
 case neg =>
  rw [carry_row h0 h1 h2 h3 hc]
  generalize rCheck (coTys (ss.getD (F - 1) zSc).1) r = Z at h5 hc ⊢
  have hcz : (Z != 0) = true := by simpa using hc
  have HC := hh_ hch; have H5 := hh_ h5; have G := hh_ hg
  clear hch hn hL hz hr hok hns h0 ho hc h5 hsp hrp hg h1 h2 h3
  go_enter Tryz.func24, Tryz.ntmps24
  go_wp2_with fail
  refine HC.out.mono ?_; rintro en w1 ⟨rfl, b1⟩; have B1 := hh_ b1; have g1 := (G.out.below b1).c0; clear b1
  go_wp2_with fail
  refine (H5.out _ B1.out).mono ?_; rintro en w2 ⟨rfl, b2⟩; have B2 := hh_ (B1.out.trans (b2.mono B1.out.size)); clear b2 g1
  go_wp2_with fail
  go_ret2
  exact ⟨_, rfl, World.ownsRow_nil _ _ _ _, B2.out⟩
 have hlen := (rCheck_parts hc).1; rw [coTys_len] at hlen; have hcok := chain_ok h0
 have hcl := fun (W : World) (hb : Below w.heap.size w W) => rcopyrow_any W C q qcap r hr.qq hr.ql (hr.to hb).lay
 rw [carry_yes h0 h1 h2 h3 hc]; rw [hc] at h5
 have HC := hh_ hch; have H5 := hh_ h5; have G := hh_ hg; have HCL := hh_ hcl; have HOK := hh_ hcok; have HLEN := hh_ hlen; have HN := hh_ hn; have HNS := hh_ hns; have HL := hh_ hL; have HR := hh_ hr; have P1 := hh_ h1; have P2 := hh_ h2; have P3 := hh_ h3
 clear hch hn hL hz hr hok hns h0 ho hc h5 hsp hg hcl hcok hlen h1 h2 h3
 go_enter Tryz.func24, Tryz.ntmps24
 go_wp2_with fail
 refine HC.out.mono ?_; rintro en w1 ⟨rfl, b1⟩; have B1 := hh_ b1; have g1 := (G.out.below b1).c0; clear b1
 go_wp2_with fail
 refine (H5.out _ B1.out).mono ?_; rintro en w2 ⟨rfl, b2⟩; have B2 := hh_ (B1.out.trans (b2.mono B1.out.size)); clear b2 g1
 go_wp2_with fail
 refine (HCL.out _ B2.out).mono ?_; rintro en w3 ⟨v0, rfl, ho3, b3⟩
 have B3 := hh_ (B2.out.trans (b3.mono B2.out.size)); have O3 := hh_ (own_more ho3 B2.out.size)
 clear b3 ho3
 go_wp2_with fail
 go_loopw [12, 13] (fun v i wr => ∃ j : Nat, i = .int .i64 j ∧ F ≤ j ∧ j ≤ T ∧ OwnC wr w.heap.size 57 v (carryRow ss F (j - F) r) ∧ Below w.heap.size w wr) (fun _ i _ => T - (RowKit.intOf i).toNat)
 case atStart => exact ⟨F, rfl, Nat.le_refl _, P2.out, by rw [Nat.sub_self]; exact O3.out, B3.out⟩
 case round =>
  obtain ⟨j, rfl, hj1, hj2, hown, hb⟩ := hrel; obtain ⟨A3, c3, rfl, hc3, hcm3⟩ := yown_slice hown
  by_cases hlt : j < T
  · have hlti : (j : Int) < T := by omega
    have hsn := carryRow_succ (l := ss) (f := F) (k := j - F) P1.out (by have := P3.out; omega) r; have hcr := carryRow_len (l := ss) P1.out HLEN.out (j - F) (by have := P3.out; omega); rw [show F + (j - F) = j by omega] at hsn hcr; have hP3 := P3.out; have hNS := HNS.out; have hP1 := P1.out; have hsa := getD_at (l := ss) (i := j - 1) (by omega); have hsb := getD_at (l := ss) (i := j) (by omega); obtain ⟨ra, hra⟩ : ∃ r, rs[j - 1]? = some r := ⟨_, List.getElem?_eq_getElem (by rw [← HN.out]; omega)⟩; obtain ⟨rb, hrb⟩ : ∃ r, rs[j]? = some r := ⟨_, List.getElem?_eq_getElem (by rw [← HN.out]; omega)⟩
    have pa := (HL.out.each _ _ _ hra hsa).to hb; have pb := (HL.out.each _ _ _ hrb hsb).to hb; obtain ⟨ua, ia⟩ := ids_of (HOK.out _ (List.mem_of_getElem? hsa)); obtain ⟨-, ib⟩ := ids_of (HOK.out _ (List.mem_of_getElem? hsb)); obtain ⟨g', o', e1, ga⟩ := HL.out.at_ hra
    cases e1
    obtain ⟨g', o', e2, gb⟩ := HL.out.at_ hrb
    cases e2
    have lR := Lay.of_own hown le_
    generalize hSA : ss.getD (j - 1) zSc = sa at hsa hsn hcr pa ua ia
    generalize hSB : ss.getD j zSc = sb at hsb hsn pb ib
    generalize hRR : carryRow ss F (j - F) r = R at hown hsn hcr lR hc3
    have hm := fun (W : World) (hb2 : Below wr.heap.size wr W) => rmoved_any ra.a ra.b ra.n ra.c ra.m ra.d sa.1 sa.2 rb.a rb.b rb.n rb.c rb.m rb.d sb.1 sb.2 A3 R.length c3 R W pa.n pa.nn (pa.to hb2).la ua ia pb.n pb.nn (pb.to hb2).la (pb.to hb2).lb ib rfl ((lR.below hb2).more hb2.size) (by rw [pa.n, hcr])
    have hwj := iw_ ((j : Int) - 1) (by omega)
    have GA := hh_ ((ga.below hb).more hb.size); have GB := hh_ ((gb.below hb).more hb.size); have HM := hh_ hm; have HSN := hh_ hsn; have HWJ := hh_ hwj; have HB := hh_ hb; have J1 := hh_ (show 1 ≤ j by omega); have J2 := hh_ (show j < n by omega)
    clear ga gb hm hsn hwj hb hown lR pa pb ua ia ib hsa hsb hra hrb hcr hSA hSB hRR hP3 hNS hP1 i4 i5 i6 hw
    go_wp2_with fail
    refine wp_region_last (l := [_, _, _, _, _, _, _, _, _, _, _]) (o := _) [isV (.slice (some ⟨g, o, none⟩) n cap), isV (.int .i64 (j : Nat)), isV (.int .i64 ((j : Int) - 1)), isV (.pointer (some ⟨g, o + (j - 1) * 2, none⟩)), isV (.agg #[.slice ra.a ra.n ra.c, .slice ra.b ra.m ra.d]), isV (.slice (some ⟨g, o, none⟩) n cap), isV (.int .i64 (j : Nat)), isV (.pointer (some ⟨g, o + j * 2, none⟩)), isV (.agg #[.slice rb.a rb.n rb.c, .slice rb.b rb.m rb.d]), isV (.slice A3 R.length c3), isOwnC w.heap.size 57 (evMoved sa.1 sb.1 R)] (by kernel_rfl) (by kernel_rfl) (by kernel_rfl) (by kernel_rfl) rfl ?_ ?_
    ·
      refine Rel.rb ?_; refine Rel.rb ?_; refine rf (fun ev wo E => ?_) ?_
      · have e52 : ev (.tmp 52) = .int .i64 (j : Nat) := E.e 0; have ec := E.const; have h0 := HWJ.out; go_simp; exact rv
      refine rf (fun ev wo E => ?_) ?_
      · have e51 : ev (.tmp 51) = .slice (some ⟨g, o, none⟩) n cap := E.e 0; have e53 : ev (.tmp 53) = .int .i64 ((j : Int) - 1) := E.e 1; have h0 := J1.out; have h1 := J2.out
        have h2 : (0 : Int) ≤ (j : Int) - 1 := by omega
        have h3 : (j : Int) - 1 < n := by omega
        have h4 : (1 : Int) ≤ j := by omega
        go_simp; exact rv
      refine rf (fun ev wo E => ?_) ?_
      · have e54 : ev (.tmp 54) = .pointer (some ⟨g, o + (j - 1) * 2, none⟩) := E.e 0; have hx0 := (E.bel.cell GA.out.lt).trans GA.out.c0; have hx1 := (E.bel.cell GA.out.lt).trans GA.out.c1; go_simp; exact rv
      refine Rel.rb ?_; refine Rel.rb ?_; refine rf (fun ev wo E => ?_) ?_
      · have e56 : ev (.tmp 56) = .slice (some ⟨g, o, none⟩) n cap := E.e 0; have e57 : ev (.tmp 57) = .int .i64 (j : Nat) := E.e 1; have h1 := J2.out
        have h3 : (j : Int) < n := by omega
        go_simp; exact rv
      refine rf (fun ev wo E => ?_) ?_
      · have e58 : ev (.tmp 58) = .pointer (some ⟨g, o + j * 2, none⟩) := E.e 0; have hx0 := (E.bel.cell GB.out.lt).trans GB.out.c0; have hx1 := (E.bel.cell GB.out.lt).trans GB.out.c1; go_simp; exact rv
      refine Rel.rb ?_; refine ⟨prem_of (WantOk.free rfl) (isOwnC_stable _ _ _) (fun ev wo E => ?_), ?_⟩
      · have e55 : ev (.tmp 55) = .agg #[.slice ra.a ra.n ra.c, .slice ra.b ra.m ra.d] := E.e 0; have e59 : ev (.tmp 59) = .agg #[.slice rb.a rb.n rb.c, .slice rb.b rb.m rb.d] := E.e 1; have e60 : ev (.tmp 60) = .slice A3 R.length c3 := E.e 2; have ef := E.func; go_simp; refine relUpon_enter ((HM.out wo E.bel).mono ?_); rintro e w' ⟨v, rfl, ho, hb⟩; exact ⟨_, rfl, hb, own_more ho (Nat.le_trans HB.out.size E.bel.size)⟩
      trivial
    · intro wz bz
      (iterate 10 rintro _ rfl)
      intro v61 h61
      have B4 := hh_ (HB.out.trans (bz.mono HB.out.size)); have H61 := hh_ h61
      clear bz h61; simp only [relEnd]; unfold Oper.wp; go_simp
      go_wp2_with fail
      go_roundw
      case rel =>
       refine ⟨j + 1, by go_num, by omega, by omega, ?_, B4.out⟩; rw [show j + 1 - F = j - F + 1 by omega, HSN.out]; exact H61.out
      case measure => simp [RowKit.intOf]; omega
  · have hlti : ¬ (j : Int) < T := by omega
    obtain rfl : j = T := by omega
    have HO := hh_ hown; have HB := hh_ hb
    clear hown hb
    go_wp2_with fail
    go_ret2
    exact ⟨_, rfl, HO.out, HB.out⟩
end Go.Proofs.YtikpmmipopmjaaaGreatDoor
namespace Go.Ms
open Go.RowKit Go.Lib
theorem rowV_noslice (l : List Cl) : ∀ x ∈ rowV l, ∀ a n c, x ≠ .slice a n c := by
 intro x hx a n c e
 obtain ⟨d, _, hd⟩ := List.mem_flatMap.1 hx; subst e
 simp [clV] at hd
structure ScArg (w : World) (A : Option Addr) (n c : Nat) (cs : List Co) (B : Option Addr) (m d : Nat) (ks : List Int) : Prop where
  nc : n ≤ c
  cm : c ≤ maxLen
  ln : cs.length = n
  la : Ext w w.heap.size A (colV cs)
  md : m ≤ d
  dm : d ≤ maxLen
  lm : ks.length = m
  lb : Ext w w.heap.size B (intV ks)
  ok : ∀ x ∈ cs, ColIn x
theorem ScArg.to {w w' : World} {A : Option Addr} {n c : Nat} {cs : List Co} {B : Option Addr} {m d : Nat} {ks : List Int} (h : ScArg w A n c cs B m d ks) (hb : Below w.heap.size w w') : ScArg w' A n c cs B m d ks :=
  ⟨h.nc, h.cm, h.ln, (h.la.keep hb).more hb.size, h.md, h.dm, h.lm, (h.lb.keep hb).more hb.size, h.ok⟩
structure RwArg (w : World) (A : Option Addr) (n c : Nat) (l : List Cl) : Prop where
  nc : n ≤ c
  cm : c ≤ maxLen
  ln : l.length = n
  la : Ext w w.heap.size A (rowV l)
  ok : ∀ x ∈ l, ClIn x
theorem RwArg.to {w w' : World} {A : Option Addr} {n c : Nat} {l : List Cl} (h : RwArg w A n c l) (hb : Below w.heap.size w w') : RwArg w' A n c l := ⟨h.nc, h.cm, h.ln, (h.la.keep hb).more hb.size, h.ok⟩
def cutSc (cs : List Co) (ks : List Int) : Sc := ((cs.take 34).map cutCo, ks.take 10)
def cutRw (l : List Cl) : List Cl := (l.take 40).map cutCl
theorem cut_sz {s : ByteArray} {k : Nat} : (s.extract 0 (min s.size k)).size ≤ k := by
 rw [ByteArray.size_extract]; omega
theorem cutSc_r {cs : List Co} {ks : List Int} (h : ∀ x ∈ cs, ColIn x) : ScR (cutSc cs ks).1 := by
 intro c hc
 obtain ⟨d, hd, rfl⟩ := List.mem_map.1 hc; have h1 := (h d (List.mem_of_mem_take hd)).2.2.2.2; refine ⟨Nat.le_trans (cut_sz (k := 40)) (by omega), Nat.le_trans (cut_sz (k := 1100)) (by omega), h1⟩
theorem cutSc_len (cs : List Co) (ks : List Int) : (cutSc cs ks).1.length = min 34 cs.length ∧ (cutSc cs ks).2.length = min 10 ks.length := by
 unfold cutSc; exact ⟨by rw [List.length_map, List.length_take], List.length_take ..⟩
theorem cutRw_ok {l : List Cl} (h : ∀ x ∈ l, ClIn x) : CsOk (cutRw l) ∧ ∀ c ∈ cutRw l, c.2.2.size ≤ 100000 := by
 have h1 : CsOk (cutRw l) := by
  intro c hc
  obtain ⟨d, hd, rfl⟩ := List.mem_map.1 hc; have h1 := (h d (List.mem_of_mem_take hd)).2; exact ⟨Nat.le_trans (cut_sz (k := 1100)) (by omega), h1⟩
 exact ⟨h1, fun c hc => by have := (h1 c hc).1; omega⟩
theorem cutRw_len (l : List Cl) : (cutRw l).length = min 40 l.length := by
 unfold cutRw; rw [List.length_map, List.length_take]
def isScL (s : Sc) : Value → World → Prop := fun v w => ∃ r : SRef, v = .agg #[.slice r.a r.n r.c, .slice r.b r.m r.d] ∧ ScLay w w.heap.size r s
theorem isScL_stable (s : Sc) : Go.Rel.Stable (isScL s) := fun v w w' ⟨r, h1, h2⟩ hb => ⟨r, h1, h2.to hb⟩
def isRwL (l : List Cl) : Value → World → Prop := fun v w => ∃ A c, v = .slice A l.length c ∧ Lay w w.heap.size A (rowV l)
theorem isRwL_stable (l : List Cl) : Go.Rel.Stable (isRwL l) := fun v w w' ⟨A, c, h1, h2⟩ hb => ⟨A, c, h1, (h2.below hb).more hb.size⟩
def isBoxN (B : Nat) (o : Obj) : Value → World → Prop := fun v w => ∃ g, v = .pointer (some ⟨g, 0, none⟩) ∧ B ≤ g ∧ w.heap[g]? = some o
theorem isBoxN_stable (B : Nat) (o : Obj) : Go.Rel.Stable (isBoxN B o) := fun v w w' ⟨g, h1, h2, h3⟩ hb => ⟨g, h1, h2, bk_ h3 hb⟩
theorem ScLay.ref {W : World} {B1 B2 : Nat} {eC eI : TypeId} {A' B' : Option Addr} {N M c d : Nat} {s : Sc} (h1 : OwnCo W B1 eC (.slice A' N c) s.1) (h2 : OwnI W B2 eI (.slice B' M d) s.2) (hN : N = s.1.length) (hM : M = s.2.length) (n1 : N ≤ 100000) (n2 : M ≤ 100000) :
    ScLay W W.heap.size ⟨A', N, c, B', M, d⟩ s := by
 unfold OwnCo at h1; unfold OwnI at h2; rw [← hN] at h1; rw [← hM] at h2; exact ⟨hN, hM, n1, n2, Lay.of_own h1 le_, Lay.of_own h2 le_⟩
theorem Lay.box2 {W : World} {B : Nat} {A : Option Addr} {xs : List Value} (h : Lay W B A xs) {b : Nat} {a1 a2 : Option Addr} {n1 c1 n2 c2 : Nat} {T : TypeId} (hb : W.heap[b]? = some (.cells #[.slice a1 n1 c1, .slice a2 n2 c2] T (0, 0))) (hx : ∀ x ∈ xs, ∀ a n c, x ≠ .slice a n c)
    (a : Option Addr) (n c : Nat) (y : Value) : Lay ((W.setCell ⟨b, 0, none⟩ (.slice a n c)).setCell ⟨b, 1, none⟩ y) B A xs := (h.off hb hx _).off (two_set0 hb _) hx _
theorem ScLay.box2 {W : World} {B : Nat} {r : SRef} {s : Sc} (h : ScLay W B r s) {b : Nat} {a1 a2 : Option Addr} {n1 c1 n2 c2 : Nat} {T : TypeId} (hb : W.heap[b]? = some (.cells #[.slice a1 n1 c1, .slice a2 n2 c2] T (0, 0)))
    (a : Option Addr) (n c : Nat) (y : Value) : ScLay ((W.setCell ⟨b, 0, none⟩ (.slice a n c)).setCell ⟨b, 1, none⟩ y) B r s :=
  ⟨h.n, h.m, h.nn, h.mm, h.la.box2 hb (colV_noslice _) a n c y, h.lb.box2 hb (intV_noslice _) a n c y⟩
end Go.Ms
namespace Go.Proofs.YtikpmmipopmjaaaGreatDoor
open Go.RowKit Go.Ms Go.Lib
theorem few12_is {w : World} {A : Option Addr} {n c : Nat} {cs : List Co} {B : Option Addr} {m d : Nat} {ks : List Int} (h : ScArg w A n c cs B m d ks) :
    Calls Tryz.prog 11 #[.agg #[.slice A n c, .slice B m d]] w fun e w' => ∃ v, e = .returned v ∧ Below w.heap.size w w' ∧ isScL (cutSc cs ks) v w' := by
 have h0 := few12_any w A B n c m d cs ks h.nc h.cm h.ln h.la h.md h.dm h.lm h.lb; refine h0.mono ?_; rintro e w' ⟨A', c', B', d', rfl, o1, o2, hb⟩; obtain ⟨l1, l2⟩ := cutSc_len cs ks; have := h.ln; have := h.lm; exact ⟨_, rfl, hb, ⟨A', min n 34, c', B', min m 10, d'⟩, rfl, ScLay.ref (s := cutSc cs ks) o1 o2 (by omega) (by omega) (by omega) (by omega)⟩
theorem copy12_is {w : World} {r : SRef} {s : Sc} (h : ScLay w w.heap.size r s) :
    Calls Tryz.prog 13 #[.agg #[.slice r.a r.n r.c, .slice r.b r.m r.d]] w fun e w' => ∃ v, e = .returned v ∧ Below w.heap.size w w' ∧ isScL s v w' := by
 have h0 := rsccopy_any w r.a r.b r.n r.c r.m r.d s.1 s.2 h.nn h.mm h.n h.m h.la h.lb; refine h0.mono ?_; rintro e w' ⟨A', c', B', d', rfl, o1, o2, hb⟩; exact ⟨_, rfl, hb, ⟨A', r.n, c', B', r.m, d'⟩, rfl, ScLay.ref o1 o2 h.n h.m h.nn h.mm⟩
theorem cells12_is {w : World} {A : Option Addr} {n c : Nat} {l : List Cl} (h : RwArg w A n c l) :
    Calls Tryz.prog 12 #[.slice A n c] w fun e w' => ∃ v, e = .returned v ∧ Below w.heap.size w w' ∧ isRwL (cutRw l) v w' := by
 have h0 := cells12_any w A n c l h.nc h.cm h.ln h.la; refine h0.mono ?_; rintro e w' ⟨A', c', rfl, o1, hb⟩; have hl := cutRw_len l; have := h.ln
 have hm : min n 40 = (cutRw l).length := by omega
 refine ⟨_, rfl, hb, A', c', by rw [hm], ?_⟩; unfold OwnC at o1; exact Lay.of_own (by rw [hm] at o1; exact o1) le_
theorem copyrow12_is {w : World} {A : Option Addr} {c : Nat} {l : List Cl} (hl : l.length ≤ 100000) (h : Lay w w.heap.size A (rowV l)) :
    Calls Tryz.prog 14 #[.slice A l.length c] w fun e w' => ∃ v, e = .returned v ∧ Below w.heap.size w w' ∧ isRwL l v w' := by
 refine (rcopyrow_any w A l.length c l hl rfl h).mono ?_; rintro e w' ⟨v, rfl, ho, hb⟩; obtain ⟨A', c', rfl, -, -⟩ := yown_slice ho; exact ⟨_, rfl, hb, A', c', rfl, Lay.of_own ho le_⟩
end Go.Proofs.YtikpmmipopmjaaaGreatDoor
namespace Go.Proofs.YtikpmmipopmjaaaGreatDoor
open Go.RowKit Go.Ms Go.Lib
def ReadPost (w : World) (s : Sc) : Ending → World → Prop := fun e w' => ∃ r : SRef, e = .returned (.agg #[.slice r.a r.n r.c, .slice r.b r.m r.d]) ∧ r.n = s.1.length ∧ r.m = s.2.length ∧ ScLay w' w'.heap.size r s ∧ Below w.heap.size w w'
theorem rp_0 : Lib.replaceAll (ByteArray.data ⟨#[49, 32, 105, 100, 32, 105, 110, 116, 51, 50, 42, 32, 48, 47, 50, 32, 115, 32, 115, 116, 114, 105, 110, 103, 32, 34, 100, 34, 47]⟩).toList [47] [10] = [49, 32, 105, 100, 32, 105, 110, 116, 51, 50, 42, 32, 48, 10, 50, 32, 115, 32, 115, 116, 114, 105, 110, 103, 32, 34, 100, 34, 10] := by kernel_rfl
theorem evread_0 (w : World) (hE : Env w) : Calls Tryz.prog 31 #[.string ⟨#[49, 32, 105, 100, 32, 105, 110, 116, 51, 50, 42, 32, 48, 47, 50, 32, 115, 32, 115, 116, 114, 105, 110, 103, 32, 34, 100, 34, 47]⟩] w (ReadPost w eW0) :=
  read12_any (S := ⟨#[49, 32, 105, 100, 32, 105, 110, 116, 51, 50, 42, 32, 48, 47, 50, 32, 115, 32, 115, 116, 114, 105, 110, 103, 32, 34, 100, 34, 47]⟩) (s := eW0) (by decide) (by decide) (by decide) (by rw [rp_0]; decide) (by rw [rp_0]; exact pd_eW0) w hE
theorem rp_1 : Lib.replaceAll (ByteArray.data ⟨#[49, 32, 105, 100, 32, 105, 110, 116, 54, 52, 42, 32, 48, 47, 52, 32, 110, 32, 105, 110, 116, 54, 52, 63, 32, 110, 117, 108, 108, 47]⟩).toList [47] [10] = [49, 32, 105, 100, 32, 105, 110, 116, 54, 52, 42, 32, 48, 10, 52, 32, 110, 32, 105, 110, 116, 54, 52, 63, 32, 110, 117, 108, 108, 10] := by kernel_rfl
theorem evread_1 (w : World) (hE : Env w) : Calls Tryz.prog 31 #[.string ⟨#[49, 32, 105, 100, 32, 105, 110, 116, 54, 52, 42, 32, 48, 47, 52, 32, 110, 32, 105, 110, 116, 54, 52, 63, 32, 110, 117, 108, 108, 47]⟩] w (ReadPost w eW1) :=
  read12_any (S := ⟨#[49, 32, 105, 100, 32, 105, 110, 116, 54, 52, 42, 32, 48, 47, 52, 32, 110, 32, 105, 110, 116, 54, 52, 63, 32, 110, 117, 108, 108, 47]⟩) (s := eW1) (by decide) (by decide) (by decide) (by rw [rp_1]; decide) (by rw [rp_1]; exact pd_eW1) w hE
theorem rp_2 : Lib.replaceAll (ByteArray.data ⟨#[49, 32, 105, 100, 32, 105, 110, 116, 51, 50, 42, 32, 48, 47]⟩).toList [47] [10] = [49, 32, 105, 100, 32, 105, 110, 116, 51, 50, 42, 32, 48, 10] := by kernel_rfl
theorem evread_2 (w : World) (hE : Env w) : Calls Tryz.prog 31 #[.string ⟨#[49, 32, 105, 100, 32, 105, 110, 116, 51, 50, 42, 32, 48, 47]⟩] w (ReadPost w eW2) :=
  read12_any (S := ⟨#[49, 32, 105, 100, 32, 105, 110, 116, 51, 50, 42, 32, 48, 47]⟩) (s := eW2) (by decide) (by decide) (by decide) (by rw [rp_2]; decide) (by rw [rp_2]; exact pd_eW2) w hE
theorem rp_3 : Lib.replaceAll (ByteArray.data ⟨#[50, 32, 115, 32, 115, 116, 114, 105, 110, 103, 32, 34, 100, 34, 47]⟩).toList [47] [10] = [50, 32, 115, 32, 115, 116, 114, 105, 110, 103, 32, 34, 100, 34, 10] := by kernel_rfl
theorem evread_3 (w : World) (hE : Env w) : Calls Tryz.prog 31 #[.string ⟨#[50, 32, 115, 32, 115, 116, 114, 105, 110, 103, 32, 34, 100, 34, 47]⟩] w (ReadPost w eW3) :=
  read12_any (S := ⟨#[50, 32, 115, 32, 115, 116, 114, 105, 110, 103, 32, 34, 100, 34, 47]⟩) (s := eW3) (by decide) (by decide) (by decide) (by rw [rp_3]; decide) (by rw [rp_3]; exact pd_eW3) w hE
theorem rp_4 : Lib.replaceAll (ByteArray.data ⟨#[49, 32, 105, 100, 32, 105, 110, 116, 51, 50, 42, 32, 48, 47, 50, 32, 116, 32, 115, 116, 114, 105, 110, 103, 32, 34, 100, 34, 47]⟩).toList [47] [10] = [49, 32, 105, 100, 32, 105, 110, 116, 51, 50, 42, 32, 48, 10, 50, 32, 116, 32, 115, 116, 114, 105, 110, 103, 32, 34, 100, 34, 10] := by kernel_rfl
theorem evread_4 (w : World) (hE : Env w) : Calls Tryz.prog 31 #[.string ⟨#[49, 32, 105, 100, 32, 105, 110, 116, 51, 50, 42, 32, 48, 47, 50, 32, 116, 32, 115, 116, 114, 105, 110, 103, 32, 34, 100, 34, 47]⟩] w (ReadPost w eW4) :=
  read12_any (S := ⟨#[49, 32, 105, 100, 32, 105, 110, 116, 51, 50, 42, 32, 48, 47, 50, 32, 116, 32, 115, 116, 114, 105, 110, 103, 32, 34, 100, 34, 47]⟩) (s := eW4) (by decide) (by decide) (by decide) (by rw [rp_4]; decide) (by rw [rp_4]; exact pd_eW4) w hE
theorem rp_5 : Lib.replaceAll (ByteArray.data ⟨#[49, 32, 105, 100, 32, 105, 110, 116, 51, 50, 42, 32, 48, 47, 50, 32, 115, 32, 115, 116, 114, 105, 110, 103, 63, 32, 34, 100, 34, 47]⟩).toList [47] [10] = [49, 32, 105, 100, 32, 105, 110, 116, 51, 50, 42, 32, 48, 10, 50, 32, 115, 32, 115, 116, 114, 105, 110, 103, 63, 32, 34, 100, 34, 10] := by kernel_rfl
theorem evread_5 (w : World) (hE : Env w) : Calls Tryz.prog 31 #[.string ⟨#[49, 32, 105, 100, 32, 105, 110, 116, 51, 50, 42, 32, 48, 47, 50, 32, 115, 32, 115, 116, 114, 105, 110, 103, 63, 32, 34, 100, 34, 47]⟩] w (ReadPost w eW5) :=
  read12_any (S := ⟨#[49, 32, 105, 100, 32, 105, 110, 116, 51, 50, 42, 32, 48, 47, 50, 32, 115, 32, 115, 116, 114, 105, 110, 103, 63, 32, 34, 100, 34, 47]⟩) (s := eW5) (by decide) (by decide) (by decide) (by rw [rp_5]; decide) (by rw [rp_5]; exact pd_eW5) w hE
theorem rp_6 : Lib.replaceAll (ByteArray.data ⟨#[49, 32, 105, 100, 32, 105, 110, 116, 51, 50, 42, 32, 48, 47, 50, 32, 115, 32, 115, 116, 114, 105, 110, 103, 32, 34, 101, 34, 47]⟩).toList [47] [10] = [49, 32, 105, 100, 32, 105, 110, 116, 51, 50, 42, 32, 48, 10, 50, 32, 115, 32, 115, 116, 114, 105, 110, 103, 32, 34, 101, 34, 10] := by kernel_rfl
theorem evread_6 (w : World) (hE : Env w) : Calls Tryz.prog 31 #[.string ⟨#[49, 32, 105, 100, 32, 105, 110, 116, 51, 50, 42, 32, 48, 47, 50, 32, 115, 32, 115, 116, 114, 105, 110, 103, 32, 34, 101, 34, 47]⟩] w (ReadPost w eW6) :=
  read12_any (S := ⟨#[49, 32, 105, 100, 32, 105, 110, 116, 51, 50, 42, 32, 48, 47, 50, 32, 115, 32, 115, 116, 114, 105, 110, 103, 32, 34, 101, 34, 47]⟩) (s := eW6) (by decide) (by decide) (by decide) (by rw [rp_6]; decide) (by rw [rp_6]; exact pd_eW6) w hE
theorem rp_7 : Lib.replaceAll (ByteArray.data ⟨#[50, 32, 115, 32, 115, 116, 114, 105, 110, 103, 42, 32, 34, 34, 47]⟩).toList [47] [10] = [50, 32, 115, 32, 115, 116, 114, 105, 110, 103, 42, 32, 34, 34, 10] := by kernel_rfl
theorem evread_7 (w : World) (hE : Env w) : Calls Tryz.prog 31 #[.string ⟨#[50, 32, 115, 32, 115, 116, 114, 105, 110, 103, 42, 32, 34, 34, 47]⟩] w (ReadPost w eW7) :=
  read12_any (S := ⟨#[50, 32, 115, 32, 115, 116, 114, 105, 110, 103, 42, 32, 34, 34, 47]⟩) (s := eW7) (by decide) (by decide) (by decide) (by rw [rp_7]; decide) (by rw [rp_7]; exact pd_eW7) w hE
theorem rp_8 : Lib.replaceAll (ByteArray.data ⟨#[49, 32, 97, 32, 98, 111, 111, 108, 32, 102, 97, 108, 115, 101, 47, 50, 32, 115, 32, 115, 116, 114, 105, 110, 103, 42, 32, 34, 34, 47]⟩).toList [47] [10] = [49, 32, 97, 32, 98, 111, 111, 108, 32, 102, 97, 108, 115, 101, 10, 50, 32, 115, 32, 115, 116, 114, 105, 110, 103, 42, 32, 34, 34, 10] := by kernel_rfl
theorem evread_8 (w : World) (hE : Env w) : Calls Tryz.prog 31 #[.string ⟨#[49, 32, 97, 32, 98, 111, 111, 108, 32, 102, 97, 108, 115, 101, 47, 50, 32, 115, 32, 115, 116, 114, 105, 110, 103, 42, 32, 34, 34, 47]⟩] w (ReadPost w eW8) :=
  read12_any (S := ⟨#[49, 32, 97, 32, 98, 111, 111, 108, 32, 102, 97, 108, 115, 101, 47, 50, 32, 115, 32, 115, 116, 114, 105, 110, 103, 42, 32, 34, 34, 47]⟩) (s := eW8) (by decide) (by decide) (by decide) (by rw [rp_8]; decide) (by rw [rp_8]; exact pd_eW8) w hE
end Go.Proofs.YtikpmmipopmjaaaGreatDoor
namespace Go.Proofs.YtikpmmipopmjaaaGreatDoor
open Go.RowKit Go.Ms Go.Lib
theorem run_cell_eq (u v : Bool) (a b : Int) (S T : ByteArray) (w : World) :
    (Op.equalIn 10000 57 (.agg #[.bool u, .int .i64 a, .string S]) (.agg #[.bool v, .int .i64 b, .string T])).run Tryz.prog w = .ok (decide ((u, a, S) = (v, b, T))) w := by
 have q1 : S.toList = T.toList ↔ S = T := by
  rw [Lib.toList_data, Lib.toList_data]; exact ⟨fun h => by rw [ba_ext (s := S) rfl, ba_ext (s := T) rfl, h], fun h => by rw [h]⟩
 by_cases h0 : u = v <;> by_cases h1 : a = b <;> by_cases h2 : S = T
 all_goals
  simp [go_sem, Tryz.underlying57, q1, h0, h1, h2]
end Go.Proofs.YtikpmmipopmjaaaGreatDoor
namespace Go.Ms
open Go.RowKit Go.Lib
end Go.Ms
namespace Go.Proofs.YtikpmmipopmjaaaGreatDoor
open Go.RowKit Go.Ms Go.Lib
set_option maxHeartbeats 1000000 in
theorem reqrow_any (w : World) (A B : Option Addr) (n cap m capm : Nat) (xs ys : List Cl) (hn' : n ≤ maxLen) (hm' : m ≤ maxLen) (hn : n = xs.length) (hm : m = ys.length) (hA : Lay w w.heap.size A (rowV xs)) (hB : Lay w w.heap.size B (rowV ys)) :
    Calls Tryz.prog 19 #[.slice A n cap, .slice B m capm] w fun e w' => e = .returned (.bool (decide (xs = ys))) ∧ Below w.heap.size w w' := by
 unfold maxLen at hn' hm'
 by_cases hnm : n = m
 · subst hnm
   have HA := hh_ hA; have HB := hh_ hB; have HN := hh_ hn; have HM := hh_ hm
   clear hA hB hn hm
   go_enter Tryz.func19, Tryz.ntmps19
   go_wp2_with fail
   go_loopw [5] (fun id wr => ∃ k : Nat, k ≤ n ∧ id = .int .i64 k ∧ Below w.heap.size w wr ∧ xs.take k = ys.take k) (fun id _ => n - (RowKit.intOf id).toNat)
   case atStart => exact ⟨0, by omega, rfl, Below.refl _ _, rfl⟩
   case round =>
    obtain ⟨k, hk, rfl, hb, hr⟩ := hrel; have HR := hh_ hr; clear hr
    by_cases hlk : k < n
    · have hki : (k : Int) < n := by omega
      obtain ⟨c, hc⟩ : ∃ c, xs[k]? = some c := ⟨_, List.getElem?_eq_getElem (by rw [← HN.out]; omega)⟩; obtain ⟨d, hd⟩ : ∃ c, ys[k]? = some c := ⟨_, List.getElem?_eq_getElem (by rw [← HM.out]; omega)⟩; obtain ⟨g, o, rfl, hg, h1, h2, h3⟩ := HA.out.cl hc; obtain ⟨g', o', rfl, hg', h4, h5, h6⟩ := HB.out.cl hd; have g1 := (hb.cell hg).trans h1; have g2 := (hb.cell hg).trans h2; have g3 := (hb.cell hg).trans h3; have g4 := (hb.cell hg').trans h4; have g5 := (hb.cell hg').trans h5; have g6 := (hb.cell hg').trans h6; clear h1 h2 h3 h4 h5 h6; have HB := hh_ hb; clear hb
      have HC := hh_ hc; have HD := hh_ hd
      clear hc hd; obtain ⟨u, nn, S⟩ := c; obtain ⟨v, mm, T⟩ := d; simp only at g1 g2 g3 g4 g5 g6
      have he := fun w => run_cell_eq u v nn mm S T w
      have hst : xs.take (k + 1) = ys.take (k + 1) ↔ (u, nn, S) = (v, mm, T) := by
       rw [List.take_add_one, List.take_add_one, HC.out, HD.out, HR.out]
       simp
      have HST := hh_ hst; clear hst
      by_cases hcd : (u, nn, S) = (v, mm, T)
      · rw [decide_eq_true hcd] at he; have HCD := hh_ hcd; clear hcd
        go_wp2_with fail
        go_quiet (fail)
        go_wp2_with fail
        go_roundw
        case rel => exact ⟨k + 1, by omega, by go_num, ms_drewN HB.out _, HST.out.2 HCD.out⟩
        case measure => simp [RowKit.intOf]; omega
      · rw [decide_eq_false hcd] at he
        have hne : decide (xs = ys) = false := by
         apply decide_eq_false
         intro e
         exact hcd (HST.out.1 (by rw [e]))
        have HNE := hh_ hne; clear hcd hne
        go_wp2_with fail
        go_quiet (fail)
        go_wp2_with fail
        go_ret
        exact ⟨by rw [HNE.out]; rfl, ms_drewN HB.out _⟩
    · have hki : ¬ (k : Int) < n := by omega
      have hkn : k = n := by omega
      have heq : decide (xs = ys) = true := by
       apply decide_eq_true
       have := HR.out; rw [hkn, List.take_of_length_le (by have := HN.out; omega), List.take_of_length_le (by have := HM.out; omega)] at this; exact this
      have HEQ := hh_ heq; have HB := hh_ hb; clear heq hkn hb
      go_wp2_with fail
      go_ret
      exact ⟨by rw [HEQ.out]; rfl, HB.out⟩
 · have hne : decide (xs = ys) = false := by
     apply decide_eq_false
     intro e
     rw [e] at hn; omega
   have h1 : ((n : Int) != m) = true := by simp; omega
   have h2 : (n != m) = true := by simpa using hnm
   rw [hne]; clear hne hnm hA hB hn hm
   go_enter Tryz.func19, Tryz.ntmps19
   go_wp2_with fail
   go_ret
   exact ⟨rfl, Below.refl _ _⟩
end Go.Proofs.YtikpmmipopmjaaaGreatDoor
