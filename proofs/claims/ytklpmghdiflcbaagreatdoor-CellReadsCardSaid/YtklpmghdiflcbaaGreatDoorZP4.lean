/- Facts for the walks. -/
import Derived.Test.YtklpmghdiflcbaaGreatDoorZP3
import Derived.Test.YtklpmghdiflcbaaGreatDoorZP2
set_option linter.unusedVariables false
namespace Go.Proofs.YtklpmghdiflcbaaGreatDoor
open Go.RowKit Go.Ms Go.Lib

set_option maxHeartbeats 1000000 in
theorem plain_any (b : Nat) (s : ByteArray) (p : Nat) (e : Int) (w : World) (hp : p < s.size) (hs : s.size ≤ 1000000) (hT : Tabs w) (h : Tri 128 b (.string s) (.int .i64 p) (.int .i64 e) w) :
    Calls Tryz.prog 112 #[.pointer (some ⟨b, 0, none⟩)] w (RdP 128 b s (rdPlain s.data.toList p e).2.1 (rdPlain s.data.toList p e).2.2 (.string ⟨(rdPlain s.data.toList p e).1.toArray⟩) w) := by
  have c0 := h.c0; have c1 := h.c1
  have hl : s.data.toList.length = s.size := by simp
  have hext : (s.extract p s.size).data.toList = s.data.toList.drop p := by rw [ext_list, List.take_of_length_le (by omega)]
  have hsz : (s.extract p s.size).size = s.size - p := by simp
  have h0 : 0 < (s.extract p s.size).size := by omega
  have g0 : ((s.extract p s.size)[0]'h0).toNat = bt s.data.toList p := by
    rw [get_of, hext]
    simp [bt, List.getD_eq_getElem?_getD]
  obtain ⟨R, hR⟩ : ∃ R, rdPlain s.data.toList p e = R := ⟨_, rfl⟩
  rw [hR]
  unfold rdPlain at hR
  have cn := fun W (hT : Tabs W) => next_any (s.extract p s.size) W hT
  have cf := fun W (hT : Tabs W) => full_any (s.extract p s.size) W (by omega) hT
  rw [hext] at cn cf
  have Cn := Lib.hid cn
  have Cf := Lib.hid cf
  clear cn cf
  obtain ⟨ok, hok⟩ : ∃ ok, (nextD (s.data.toList.drop p)).2.2 = ok := ⟨_, rfl⟩
  obtain ⟨n, hn⟩ : ∃ n, (nextD (s.data.toList.drop p)).2.1 = n := ⟨_, rfl⟩
  rw [hok, hn] at hR
  have hnl : ok = true → n ≤ s.size - p := by
    intro h1
    rcases next_cases (s.data.toList.drop p) with e1 | ⟨r, _, e2, e3⟩
    · rw [e1] at hok; simp at hok; rw [h1] at hok; cases hok
    · rw [e2] at hn
      have := congrArg List.length e3
      simp at this hn
      omega
  have Hext := Lib.hid hext
  have Hok := Lib.hid hok
  have Hn := Lib.hid hn
  clear hok hn hext
  have hcut : ((s.extract p s.size).extract 0 n).data.toList = (s.data.toList.drop p).take n := by rw [ext_list, Hext.out]; simp
  have Hcut := Lib.hid hcut
  clear hcut
  by_cases hc : bt s.data.toList p < 32
  · rw [if_pos hc] at hR
    subst hR
    have hc' : (bt s.data.toList p : Int) < 32 := by omega
    go_enter Tryz.func112, Tryz.ntmps112
    go_wp2_with fail
    go_quiet (fail)
    go_wp2_with fail
    refine (Cn.out _ (by exact hT)).mono ?_
    rintro en w1 ⟨rfl, hb1⟩
    have t1 := (h.drewN _).below hb1 h.lt
    have k1 : Kept b w w1 := ((Kept.refl b w).drewN _).trans (Kept.of_below hb1)
    rw [Hok.out, Hn.out]
    go_wp2_with fail
    refine (fail_any b s p e 41 _ t1).mono ?_
    rintro en w2 ⟨rfl, t2, k2⟩
    go_wp2_with fail
    go_ret
    exact ⟨rfl, t2, k1.trans k2⟩
  rw [if_neg hc] at hR
  have hc' : ¬ (bt s.data.toList p : Int) < 32 := by omega
  cases ok
  · rw [if_neg (by simp)] at hR
    obtain ⟨fl, hfl⟩ : ∃ fl, fullD (s.data.toList.drop p) = fl := ⟨_, rfl⟩
    rw [hfl] at hR
    have Hfl := Lib.hid hfl
    clear hfl
    cases fl
    · rw [if_neg (by simp)] at hR
      subst hR
      go_enter Tryz.func112, Tryz.ntmps112
      go_wp2_with fail
      go_quiet (fail)
      go_wp2_with fail
      refine (Cn.out _ (by exact hT)).mono ?_
      rintro en w1 ⟨rfl, hb1⟩
      have t1 := (h.drewN _).below hb1 h.lt
      have k1 : Kept b w w1 := ((Kept.refl b w).drewN _).trans (Kept.of_below hb1)
      rw [Hok.out, Hn.out]
      go_wp2_with fail
      refine (Cf.out _ (tabs_below (tabs_drewN hT _) hb1)).mono ?_
      rintro en w2 ⟨rfl, hb2⟩
      rw [Hfl.out]
      go_wp2_with fail
      refine (fail_any b s p e 3 _ (t1.below hb2 t1.lt)).mono ?_
      rintro en w3 ⟨rfl, t3, k3⟩
      go_wp2_with fail
      go_ret
      exact ⟨rfl, t3, (k1.trans (Kept.of_below hb2)).trans k3⟩
    · rw [if_pos rfl] at hR
      subst hR
      go_enter Tryz.func112, Tryz.ntmps112
      go_wp2_with fail
      go_quiet (fail)
      go_wp2_with fail
      refine (Cn.out _ (by exact hT)).mono ?_
      rintro en w1 ⟨rfl, hb1⟩
      have t1 := (h.drewN _).below hb1 h.lt
      have k1 : Kept b w w1 := ((Kept.refl b w).drewN _).trans (Kept.of_below hb1)
      rw [Hok.out, Hn.out]
      go_wp2_with fail
      refine (Cf.out _ (tabs_below (tabs_drewN hT _) hb1)).mono ?_
      rintro en w2 ⟨rfl, hb2⟩
      rw [Hfl.out]
      go_wp2_with fail
      refine (fail_any b s p e 40 _ (t1.below hb2 t1.lt)).mono ?_
      rintro en w3 ⟨rfl, t3, k3⟩
      go_wp2_with fail
      go_ret
      exact ⟨rfl, t3, (k1.trans (Kept.of_below hb2)).trans k3⟩
  · rw [if_pos rfl] at hR
    subst hR
    have hnl2 : n ≤ s.size - p := hnl rfl
    have hnl3 : (n : Int) ≤ ((s.extract p s.size).size : Int) := by omega
    clear hnl
    go_enter Tryz.func112, Tryz.ntmps112
    go_wp2_with fail
    go_quiet (fail)
    go_wp2_with fail
    refine (Cn.out _ (by exact hT)).mono ?_
    rintro en w1 ⟨rfl, hb1⟩
    have t1 := (h.drewN _).below hb1 h.lt
    have k1 : Kept b w w1 := ((Kept.refl b w).drewN _).trans (Kept.of_below hb1)
    rw [Hok.out, Hn.out]
    have d1 := t1.c1
    have f1 := t1.fr 1
    go_wp2_with fail
    go_ret
    refine ⟨?_, ?_, ?_⟩
    · exact congrArg (fun x => Ending.returned (Value.string x)) (ba_ext Hcut.out)
    · exact t1.set1 (.int .i64 ((p + n : Nat) : Int))
    · exact k1.trans ((Kept.refl b w1).setCell (p := ⟨b, 1, none⟩) rfl _)
end Go.Proofs.YtklpmghdiflcbaaGreatDoor
