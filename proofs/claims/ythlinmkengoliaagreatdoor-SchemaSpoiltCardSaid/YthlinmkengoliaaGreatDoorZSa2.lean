/- Schemas: what is a name: the package's answer. Schemas: what is a name: the package's answer, the reference's. Schemas: the reference's names; numbers that rise. -/
import Derived.Test.YthlinmkengoliaaGreatDoorZSa0
import Derived.Test.YthlinmkengoliaaGreatDoorShelf
import Derived.Test.YthlinmkengoliaaGreatDoorZYb
import Derived.Shelf.Strings.SlTrimAscii
import Derived.Shelf.Strings.FuncGrows
set_option linter.unusedVariables false
set_option linter.unusedSimpArgs false
namespace Go.Ms
open Go.RowKit Go.Lib
def nmSet : Bs := [97, 98, 99, 100, 101, 102, 103, 104, 105, 106, 107, 108, 109, 110, 111, 112, 113, 114, 115, 116, 117, 118, 119, 120, 121, 122, 48, 49, 50, 51, 52, 53, 54, 55, 56, 57, 95]
theorem nmSet_fin : ∀ k : Fin 256, nmSet.contains (UInt8.ofNat k.val) = nmByte (UInt8.ofNat k.val) := by decide +kernel
theorem nmSet_eq (c : UInt8) : nmSet.contains c = nmByte c := by
 have := nmSet_fin ⟨c.toNat, UInt8.toNat_lt c⟩
 simpa using this
theorem dropW_nil (p : UInt8 → Bool) : ∀ l : Bs, l.dropWhile p = [] ↔ l.all p = true
  | [] => by simp
  | c :: r => by
   rw [List.dropWhile_cons, List.all_cons, Bool.and_eq_true]
   split
   · rename_i h
     rw [dropW_nil p r]
     simp [h]
   · rename_i h
     simp [h]
theorem dropW_head (p : UInt8 → Bool) : ∀ l : Bs, l.dropWhile p = [] ∨ ∃ a t, l.dropWhile p = a :: t ∧ p a = false
  | [] => .inl rfl
  | c :: r => by
   rw [List.dropWhile_cons]
   split
   · exact dropW_head p r
   · rename_i h
     exact .inr ⟨c, r, rfl, by simpa using h⟩
theorem trimS_nil (l cs : Bs) : trimS l cs = [] ↔ l.all (fun c => cs.contains c) = true := by
 unfold trimS trimLeftS trimRightS; rw [dropW_nil]; have e := dropW_nil (fun c => cs.contains c) l.reverse; rw [List.all_reverse] at e; rw [← e]
 rcases dropW_head (fun c => cs.contains c) l.reverse with h | ⟨a, t, h, ha⟩
 · rw [h]; simp
 · rw [h, List.all_reverse, List.all_cons]; simp only [ha, Bool.false_and, Bool.false_eq_true, reduceCtorEq]
def oddP (r : Nat) : Bool := (decide (r < 97) || decide (122 < r)) && (decide (r < 48) || decide (57 < r)) && decide (r ≠ 95)
theorem oddP_nm {c : UInt8} (h : nmByte c = true) : oddP c.toNat = false ∧ c.toNat < 128 := by
 unfold nmByte nmFirst at h; unfold oddP; simp only [Bool.or_eq_true, Bool.and_eq_true, decide_eq_true_eq] at h
 rcases h with (⟨h1, h2⟩ | ⟨h1, h2⟩) | h
 · exact ⟨by rw [decide_eq_false (by omega : ¬ c.toNat < 97), decide_eq_false (by omega : ¬ 122 < c.toNat)]; rfl, by omega⟩
 · exact ⟨by rw [decide_eq_false (by omega : ¬ c.toNat < 48), decide_eq_false (by omega : ¬ 57 < c.toNat), Bool.or_self, Bool.and_false]; rfl, by omega⟩
 · exact ⟨by rw [h]; rfl, by omega⟩
theorem idx_none {S : ByteArray} (h : ∀ c ∈ S.data.toList, nmByte c = true) : ∀ (f pos : Nat), idxFuncFrom oddP true S f pos = -1
  | 0, pos => rfl
  | f + 1, pos => by
   unfold idxFuncFrom
   split
   · rename_i hp
     have hm : S.get! pos ∈ S.data.toList := by
      have : S.get! pos = S.data[pos]'hp := by
       show S.data[pos]! = _
       exact getElem!_pos S.data pos hp
      rw [this]; exact Array.mem_toList_iff.2 (Array.getElem_mem hp)
     obtain ⟨ho, hlt⟩ := oddP_nm (h _ hm)
     have hd : Utf8.decode S pos = ((S.get! pos).toNat, 1) := by
      unfold Utf8.decode; simp only [Nat.add_zero]; rw [if_pos (by omega)]
     rw [hd]; simp only [ho, Bool.false_eq_true, if_false]; exact idx_none h f _
   · rfl
end Go.Ms
namespace Go.Proofs.YthlinmkengoliaaGreatDoor
open Go.RowKit Go.Ms Go.Lib
theorem odd_any (r : Nat) (w : World) (hr : r ≤ 1114111) :
    Calls Tryz.prog 39 #[.int .i32 r] w fun e w' => e = .returned (.bool (oddP r)) ∧ Below w.heap.size w w' := by
 have hd : oddP r = ((decide ((r : Int) < 97) || decide (122 < (r : Int))) && (decide ((r : Int) < 48) || decide (57 < (r : Int))) && ((r : Int) != 95)) := by
  unfold oddP
  have e1 : ((r : Int) != 95) = decide (r ≠ 95) := by
   by_cases h : r = 95
   · subst h; rfl
   · rw [decide_eq_true h]; simpa using (by omega : ¬ (r : Int) = 95)
  rw [e1]
  congr 2
  · congr 1
    · exact decide_eq_decide.2 (by omega)
    · exact decide_eq_decide.2 (by omega)
  · congr 1
    · exact decide_eq_decide.2 (by omega)
    · exact decide_eq_decide.2 (by omega)
 rw [hd]; clear hd
 go_enter Tryz.func39, Tryz.ntmps39
 go_wp2_with fail
 all_goals go_ret
 all_goals (refine ⟨?_, Below.refl _ _⟩; first | (congr 2; done) | (congr 2; simp only [Bool.and_eq_true, Bool.or_eq_true, Bool.eq_iff_iff, decide_eq_true_eq, bne_iff_ne, ne_eq]; omega) | (congr 2; simp; omega))
end Go.Proofs.YthlinmkengoliaaGreatDoor
set_option linter.unusedSimpArgs false
namespace Go.Proofs.YthlinmkengoliaaGreatDoor
open Go.RowKit Go.Ms Go.Lib
set_option maxRecDepth 100000 in
set_option maxHeartbeats 1000000 in
theorem isname_any (S : ByteArray) (w : World) (hs : S.size ≤ 100000) :
    Calls Tryz.prog 13 #[.string S] w fun e w' => e = .returned (.bool (isNm S.data.toList)) ∧ Below w.heap.size w w' := by
 have hT : ∀ w, Calls Tryz.prog 37 #[.string S, .string ⟨#[97, 98, 99, 100, 101, 102, 103, 104, 105, 106, 107, 108, 109, 110, 111, 112, 113, 114, 115, 116, 117, 118, 119, 120, 121, 122, 48, 49, 50, 51, 52, 53, 54, 55, 56, 57, 95]⟩] w fun e w' => e = .returned (.string ⟨(Lib.trimS S.data.toList (ByteArray.mk #[97, 98, 99, 100, 101, 102, 103, 104, 105, 106, 107, 108, 109, 110, 111, 112, 113, 114, 115, 116, 117, 118, 119, 120, 121, 122, 48, 49, 50, 51, 52, 53, 54, 55, 56, 57, 95]).data.toList).toArray⟩) ∧ Below w.heap.size w w' := fun w => (Any.strings_Trim_laid Tryz.lays160 (by kernel_rfl) S ⟨#[97, 98, 99, 100, 101, 102, 103, 104, 105, 106, 107, 108, 109, 110, 111, 112, 113, 114, 115, 116, 117, 118, 119, 120, 121, 122, 48, 49, 50, 51, 52, 53, 54, 55, 56, 57, 95]⟩ w (by omega) (by decide) (ascii_of_all (by decide)))
 have hTr : Lib.trimS S.data.toList (ByteArray.mk #[97, 98, 99, 100, 101, 102, 103, 104, 105, 106, 107, 108, 109, 110, 111, 112, 113, 114, 115, 116, 117, 118, 119, 120, 121, 122, 48, 49, 50, 51, 52, 53, 54, 55, 56, 57, 95]).data.toList = Lib.trimS S.data.toList nmSet := rfl
 have hall : Lib.trimS S.data.toList nmSet = [] ↔ S.data.toList.all nmByte = true := by
  rw [trimS_nil]; have : (fun c => nmSet.contains c) = nmByte := funext nmSet_eq; rw [this]
 obtain ⟨L, hL⟩ : ∃ L, Lib.trimS S.data.toList nmSet = L := ⟨_, rfl⟩; rw [hL] at hall; simp only [hTr, hL] at hT
 have HT := Lib.hid hT; have HA := Lib.hid hall
 clear hT hTr hL hall
 have hlen : S.data.toList.length = S.size := by simp
 by_cases h0 : S.size = 0
 · have hn : isNm S.data.toList = false := by unfold isNm; rw [hlen, h0]; rfl
   have e1 : S.toList = [] := by rw [Lib.toList_data]; exact List.eq_nil_of_length_eq_zero (by rw [hlen]; exact h0)
   rw [hn]; clear hn hlen
   go_enter Tryz.func13, Tryz.ntmps13
   go_wp2_with fail
   go_ret
   exact ⟨rfl, Below.refl _ _⟩
 have e1 : ¬ S.toList = [] := by rw [Lib.toList_data]; intro e; rw [e] at hlen; simp at hlen; omega
 have h0' : 0 < S.size := by omega
 have e3 : S.toList.isEmpty = false := by rw [List.isEmpty_eq_false_iff]; exact e1
 by_cases h1 : 32 < S.size
 · have hn : isNm S.data.toList = false := by unfold isNm; rw [hlen, decide_eq_false (by omega : ¬ S.size ≤ 32)]; simp
   have h1' : (32 : Int) < S.size := by omega
   rw [hn]; clear hn hlen
   go_enter Tryz.func13, Tryz.ntmps13
   go_wp2_with fail
   go_ret
   exact ⟨rfl, Below.refl _ _⟩
 have h1' : ¬ (32 : Int) < S.size := by omega
 have hF : S.data.toList.getD 0 0 = S[0]'h0' := by
  rw [List.getD_eq_getElem?_getD, List.getElem?_eq_getElem (by rw [hlen]; exact h0')]; rfl
 obtain ⟨c, hc⟩ : ∃ c, S[0]'h0' = c := ⟨_, rfl⟩; rw [hc] at hF
 have hin : c ∈ S.data.toList := by
  rw [← hc]; exact Array.mem_toList_iff.2 (Array.getElem_mem h0')
 by_cases h2 : c.toNat < 97
 · have hn : isNm S.data.toList = false := by unfold isNm nmFirst; rw [hF, decide_eq_false (by omega : ¬ 97 ≤ c.toNat)]; simp
   have h2' : (c.toNat : Int) < 97 := by omega
   rw [hn]; clear hn hlen
   go_enter Tryz.func13, Tryz.ntmps13
   go_wp2_with fail
   go_ret
   exact ⟨rfl, Below.refl _ _⟩
 have h2' : ¬ (c.toNat : Int) < 97 := by omega
 by_cases h3 : 122 < c.toNat
 · have hn : isNm S.data.toList = false := by unfold isNm nmFirst; rw [hF, decide_eq_false (by omega : ¬ c.toNat ≤ 122)]; simp
   have h3' : (122 : Int) < c.toNat := by omega
   rw [hn]; clear hn hlen
   go_enter Tryz.func13, Tryz.ntmps13
   go_wp2_with fail
   go_ret
   exact ⟨rfl, Below.refl _ _⟩
 have h3' : ¬ (122 : Int) < c.toNat := by omega
 by_cases h4 : S.data.toList.all nmByte = true
 · have hn : isNm S.data.toList = true := by unfold isNm nmFirst; rw [hF, hlen, h4]; simp; omega
   obtain rfl : L = [] := HA.out.2 h4
   have hC := fun w => Tryz.strings_ContainsFunc_grows 39 #[] (enters_of Tryz.func39 (by kernel_rfl) rfl) oddP S w (fun W x hx hb => odd_any x W hx)
   have hI : Lib.idxFunc oddP true S = -1 := idx_none (fun c hc => List.all_eq_true.1 h4 c hc) _ _; rw [hI] at hC; have HC := Lib.hid hC; rw [hn]; clear hn hlen hC hI h4
   go_enter Tryz.func13, Tryz.ntmps13
   go_wp2_with fail
   refine (HT.out _).mono ?_; rintro en w1 ⟨rfl, b1⟩; have B1 := Lib.hid b1; clear b1
   go_wp2_with fail
   refine (HC.out _).mono ?_; rintro en w2 ⟨rfl, b2⟩; have B2 := Lib.hid (B1.out.trans (b2.mono B1.out.size)); clear b2
   go_wp2_with fail
   go_ret
   exact ⟨rfl, B2.out⟩
 · have hn : isNm S.data.toList = false := by unfold isNm; simp only [Bool.not_eq_true] at h4; rw [h4]; simp
   have hL2 : ¬ L = [] := fun e => h4 (HA.out.1 e)
   have e2 : ¬ (ByteArray.mk L.toArray).toList = [] := by rw [Lib.toList_data]; simpa using hL2
   have e4 : (ByteArray.mk L.toArray).toList.isEmpty = false := by rw [List.isEmpty_eq_false_iff]; exact e2
   rw [hn]; clear hn hlen h4 HA
   go_enter Tryz.func13, Tryz.ntmps13
   go_wp2_with fail
   refine (HT.out _).mono ?_; rintro en w1 ⟨rfl, b1⟩; have B1 := Lib.hid b1; clear b1
   go_wp2_with fail
   go_ret
   exact ⟨rfl, B1.out⟩
end Go.Proofs.YthlinmkengoliaaGreatDoor
set_option linter.unusedSimpArgs false
namespace Go.Proofs.YthlinmkengoliaaGreatDoor
open Go.RowKit Go.Ms Go.Lib
set_option maxRecDepth 100000 in
set_option maxHeartbeats 1000000 in
theorem risname_any (S : ByteArray) (w : World) (hs : S.size ≤ 100000) :
    Calls Tryz.prog 18 #[.string S] w fun e w' => e = .returned (.bool (isNm S.data.toList)) ∧ Below w.heap.size w w' := by
 have hlen : S.data.toList.length = S.size := by simp
 by_cases h0 : S.size = 0
 · have hn : isNm S.data.toList = false := by unfold isNm; rw [hlen, h0]; rfl
   have h0' : (S.size : Int) < 1 := by omega
   rw [hn]; clear hn hlen
   go_enter Tryz.func18, Tryz.ntmps18
   go_wp2_with fail
   go_ret
   exact ⟨rfl, Below.refl _ _⟩
 have h0' : ¬ (S.size : Int) < 1 := by omega
 by_cases h1 : 32 < S.size
 · have hn : isNm S.data.toList = false := by unfold isNm; rw [hlen, decide_eq_false (by omega : ¬ S.size ≤ 32)]; simp
   have h1' : (32 : Int) < S.size := by omega
   rw [hn]; clear hn hlen
   go_enter Tryz.func18, Tryz.ntmps18
   go_wp2_with fail
   go_ret
   exact ⟨rfl, Below.refl _ _⟩
 have h1' : ¬ (32 : Int) < S.size := by omega
 have HLen := Lib.hid hlen; clear hlen
 go_enter Tryz.func18, Tryz.ntmps18
 go_wp2_with fail
 go_loopw [3] (fun id wr => ∃ k : Nat, k ≤ S.size ∧ id = .int .i64 k ∧ Below w.heap.size w wr ∧ ∀ (j : Nat) c, j < k → S.data.toList[j]? = some c → nmByte c = true ∧ (j = 0 → nmFirst c = true)) (fun id _ => S.size - (RowKit.intOf id).toNat)
 case atStart => exact ⟨0, by omega, rfl, Below.refl _ _, fun j c h => absurd h (by omega)⟩
 case round =>
  obtain ⟨k, hk, rfl, hb0, hp⟩ := hrel
  have HP := Lib.hid hp; have HBW := Lib.hid hb0
  clear hp hb0
  by_cases hlk : k < S.size
  · have hki : (k : Int) < S.size := by omega
    obtain ⟨c, hc⟩ : ∃ c, S[k]'hlk = c := ⟨_, rfl⟩
    have hcl : S.data.toList[k]? = some c := by
     rw [List.getElem?_eq_getElem (by rw [HLen.out]; exact hlk), ← hc]; rfl
    have HCL := Lib.hid hcl; clear hcl
    by_cases g1 : 97 ≤ c.toNat ∧ c.toNat ≤ 122
    · have g2 : (97 : Int) ≤ c.toNat := by omega
      have g3 : (c.toNat : Int) ≤ 122 := by omega
      have hok : nmFirst c = true := by unfold nmFirst; simp [g1]
      have HOK := Lib.hid hok; clear hok
      go_wp2_with fail
      go_roundw
      case rel =>
       refine ⟨k + 1, by omega, by go_num, HBW.out, fun j d hj hd => ?_⟩
       by_cases e : j = k
       · subst e; rw [HCL.out] at hd
         cases hd
         exact ⟨by unfold nmByte; rw [HOK.out]; rfl, fun _ => HOK.out⟩
       · exact HP.out j d (by omega) hd
      case measure => simp [RowKit.intOf]; omega
    · have hf : nmFirst c = false := by
        unfold nmFirst
        by_cases g : 97 ≤ c.toNat
        · rw [decide_eq_false (by omega : ¬ c.toNat ≤ 122), Bool.and_false]
        · rw [decide_eq_false g, Bool.false_and]
      have HF := Lib.hid hf; clear hf
      have hbad : ¬ (nmByte c = true ∧ (k = 0 → nmFirst c = true)) → isNm S.data.toList = false := by
       intro hb
       cases he : isNm S.data.toList with
       | false => rfl
       | true =>
        exfalso
        apply hb
        unfold isNm at he; simp only [Bool.and_eq_true] at he; refine ⟨List.all_eq_true.1 he.2 c (List.mem_of_getElem? HCL.out), fun h0 => ?_⟩; subst h0; have := he.1.2; rw [List.getD_eq_getElem?_getD, HCL.out] at this; exact this
      have HBAD := Lib.hid hbad; clear hbad
      by_cases hk0 : k = 0
      · subst hk0; have hn := HBAD.out (fun h => by have := h.2 rfl; rw [HF.out] at this; cases this); have HNN := Lib.hid hn; clear hn
        by_cases g2 : (97 : Int) ≤ c.toNat
        · have g3 : ¬ (c.toNat : Int) ≤ 122 := by omega
          go_wp2_with fail
          go_ret
          exact ⟨congrArg (fun b => Ending.returned (.bool b)) HNN.out.symm, HBW.out⟩
        · go_wp2_with fail
          go_ret
          exact ⟨congrArg (fun b => Ending.returned (.bool b)) HNN.out.symm, HBW.out⟩
      · have hk1 : ((k : Int) == 0) = false := by simp; omega
        have hk2 : ¬ (k : Int) = 0 := by omega
        by_cases hb : nmByte c = true
        · have HB := Lib.hid hb
          have hgood : c.toNat = 95 ∨ (c.toNat ≠ 95 ∧ 48 ≤ c.toNat ∧ c.toNat ≤ 57) := by
           unfold nmByte at hb; rw [HF.out] at hb; simp only [Bool.or_eq_true, Bool.and_eq_true, decide_eq_true_eq, Bool.false_eq_true, false_or] at hb; omega
          clear hb
          have hrel' : ∃ k' : Nat, k' ≤ S.size ∧ Value.int .i64 ((k : Int) + 1) = .int .i64 k' ∧ Below w.heap.size w wr ∧ ∀ (j : Nat) d, j < k' → S.data.toList[j]? = some d → nmByte d = true ∧ (j = 0 → nmFirst d = true) := by
           refine ⟨k + 1, by omega, by go_num, HBW.out, fun j d hj hd => ?_⟩
           by_cases e : j = k
           · subst e; rw [HCL.out] at hd
             cases hd
             exact ⟨HB.out, fun h => absurd h hk0⟩
           · exact HP.out j d (by omega) hd
          have HR := Lib.hid hrel'; clear hrel'
          rcases hgood with g5 | ⟨g5, g6, g7⟩
          · have g2 : ¬ (97 : Int) ≤ c.toNat ∨ ¬ (c.toNat : Int) ≤ 122 := by omega
            have g8 : (c.toNat : Int) = 95 := by omega
            have g9 : ((c.toNat : Int) != 95) = false := by simp [g8]
            by_cases gx : (97 : Int) ≤ c.toNat
            · have gy : ¬ (c.toNat : Int) ≤ 122 := by omega
              go_wp2_with fail
              go_roundw
              case rel => simpa using HR.out
              case measure => simp [RowKit.intOf]; omega
            · go_wp2_with fail
              go_roundw
              case rel => simpa using HR.out
              case measure => simp [RowKit.intOf]; omega
          · have g2 : ¬ (97 : Int) ≤ c.toNat := by omega
            have g9 : ((c.toNat : Int) != 95) = true := by simp; omega
            have ga : ¬ (c.toNat : Int) < 48 := by omega
            have gb : ¬ (57 : Int) < c.toNat := by omega
            go_wp2_with fail
            go_roundw
            case rel => simpa using HR.out
            case measure => simp [RowKit.intOf]; omega
        · have hn := HBAD.out (fun h => hb h.1)
          have hb2 : c.toNat ≠ 95 ∧ (c.toNat < 48 ∨ 57 < c.toNat) := by
           unfold nmByte at hb; simp only [Bool.or_eq_true, Bool.and_eq_true, decide_eq_true_eq, not_or, not_and] at hb; omega
          have g9 : ((c.toNat : Int) != 95) = true := by simp; omega
          have HNN := Lib.hid hn; clear hn hb
          by_cases g2 : (97 : Int) ≤ c.toNat
          · have g3 : ¬ (c.toNat : Int) ≤ 122 := by omega
            have ga : ¬ (c.toNat : Int) < 48 := by omega
            have gb : (57 : Int) < c.toNat := by omega
            go_wp2_with fail
            go_ret
            exact ⟨congrArg (fun b => Ending.returned (.bool b)) HNN.out.symm, HBW.out⟩
          · by_cases ga : (c.toNat : Int) < 48
            · go_wp2_with fail
              go_ret
              exact ⟨congrArg (fun b => Ending.returned (.bool b)) HNN.out.symm, HBW.out⟩
            · have gb : (57 : Int) < c.toNat := by omega
              go_wp2_with fail
              go_ret
              exact ⟨congrArg (fun b => Ending.returned (.bool b)) HNN.out.symm, HBW.out⟩
  · have hki : ¬ (k : Int) < S.size := by omega
    have hn : isNm S.data.toList = true := by
     unfold isNm
     have h5 : S.data.toList.all nmByte = true := List.all_eq_true.2 fun c hc => by
      obtain ⟨j, hj⟩ := List.getElem?_of_mem hc; have := (List.getElem?_eq_some_iff.1 hj).1; exact (HP.out j c (by have := HLen.out; omega) hj).1
     have h6 : nmFirst (S.data.toList.getD 0 0) = true := by
      have hl : 0 < S.data.toList.length := by rw [HLen.out]; omega
      rw [List.getD_eq_getElem?_getD, List.getElem?_eq_getElem hl]; exact (HP.out 0 _ (by omega) (List.getElem?_eq_getElem hl)).2 rfl
     rw [h5, h6, HLen.out]
     simp; omega
    have HNN := Lib.hid hn; clear hn
    go_wp2_with fail
    go_ret
    exact ⟨congrArg (fun b => Ending.returned (.bool b)) HNN.out.symm, HBW.out⟩
set_option maxRecDepth 100000 in
set_option maxHeartbeats 1000000 in
theorem rises_any (w : World) (A : Option Addr) (n cap : Nat) (l : List Int) (lo hi : Int) (hn' : n ≤ maxLen) (hn : n = l.length) (hA : Lay w w.heap.size A (intV l)) :
    Calls Tryz.prog 45 #[.slice A n cap, .int .i64 lo, .int .i64 hi] w fun e w' => e = .returned (.bool (risesL l lo hi)) ∧ Below w.heap.size w w' := by
 unfold maxLen at hn'; have hiff := rises_iff l lo hi
 have HI := Lib.hid hiff; have HA := Lib.hid hA; have HN := Lib.hid hn
 clear hiff hA hn
 go_enter Tryz.func45, Tryz.ntmps45
 go_wp2_with fail
 go_loopw [11] (fun id wr => ∃ k : Nat, k ≤ n ∧ id = .int .i64 k ∧ Below w.heap.size w wr ∧ (∀ (j : Nat) x, j < k → l[j]? = some x → lo ≤ x ∧ x ≤ hi) ∧ ∀ (j : Nat) x y, j + 1 < k → l[j]? = some x → l[j + 1]? = some y → x < y) (fun id _ => n - (RowKit.intOf id).toNat)
 case atStart => exact ⟨0, by omega, rfl, Below.refl _ _, fun j c h => absurd h (by omega), fun j c _ h => absurd h (by omega)⟩
 case round =>
  obtain ⟨k, hk, rfl, hb, hp, hq⟩ := hrel
  have HP := Lib.hid hp; have HQ := Lib.hid hq
  clear hp hq
  by_cases hlk : k < n
  · have hki : (k : Int) < n := by omega
    obtain ⟨x, hx⟩ : ∃ x, l[k]? = some x := ⟨_, List.getElem?_eq_getElem (by rw [← HN.out]; omega)⟩; obtain ⟨g, o, rfl, hg, h1⟩ := HA.out.num hx; have g1 := (hb.cell hg).trans h1; clear h1; have HX := Lib.hid hx; clear hx
    by_cases c1 : x < lo
    · have hne : risesL l lo hi = false := by
        rw [Bool.eq_false_iff]; intro e
        have := ((HI.out.1 e).1 k x HX.out).1; omega
      have HB := Lib.hid hb; have HNE := Lib.hid hne; clear hne hb
      go_wp2_with fail
      go_ret
      exact ⟨congrArg (fun b => Ending.returned (.bool b)) HNE.out.symm, HB.out⟩
    by_cases c2 : hi < x
    · have hne : risesL l lo hi = false := by
        rw [Bool.eq_false_iff]; intro e
        have := ((HI.out.1 e).1 k x HX.out).2; omega
      have HB := Lib.hid hb; have HNE := Lib.hid hne; clear hne hb
      go_wp2_with fail
      go_ret
      exact ⟨congrArg (fun b => Ending.returned (.bool b)) HNE.out.symm, HB.out⟩
    cases k with
    | zero =>
     have HB := Lib.hid hb; rw [Nat.add_zero] at g1; clear hb
     go_wp2_with fail
     go_roundw
     case rel =>
      refine ⟨1, by omega, by go_num, HB.out, fun j y hj hy => ?_, fun j c _ h => absurd h (by omega)⟩
      obtain rfl : j = 0 := by omega
      rw [HX.out] at hy
      cases hy
      exact ⟨by omega, by omega⟩
     case measure => simp [RowKit.intOf]; omega
    | succ i =>
     obtain ⟨y, hy⟩ : ∃ y, l[i]? = some y := ⟨_, List.getElem?_eq_getElem (by rw [← HN.out]; omega)⟩; obtain ⟨g', o', e', hg', h1⟩ := HA.out.num hy
     cases e'
     have g2 := (hb.cell hg').trans h1
     have HY := Lib.hid hy; have HB := Lib.hid hb
     clear h1 hy hb
     have hin : (i : Int) < n := by omega
     have hi1 : (i : Int) + 1 < n := by omega
     by_cases c3 : x ≤ y
     · have hne : risesL l lo hi = false := by
         rw [Bool.eq_false_iff]; intro e
         have := (HI.out.1 e).2 i y x HY.out HX.out; omega
       have HNE := Lib.hid hne; clear hne
       go_wp2_with fail
       go_ret
       exact ⟨congrArg (fun b => Ending.returned (.bool b)) HNE.out.symm, HB.out⟩
     · go_wp2_with fail
       go_roundw
       case rel =>
        refine ⟨i + 2, by omega, by go_num, HB.out, fun j z hj hz => ?_, fun j z u hj hz hu => ?_⟩
        · by_cases e : j = i + 1
          · subst e; rw [HX.out] at hz
            cases hz
            exact ⟨by omega, by omega⟩
          · exact HP.out j z (by omega) hz
        · by_cases e : j = i
          · subst e; rw [HX.out] at hu; rw [HY.out] at hz
            cases hu; cases hz
            omega
          · exact HQ.out j z u (by omega) hz hu
       case measure => simp [RowKit.intOf]; omega
  · have hki : ¬ (k : Int) < n := by omega
    have hne : risesL l lo hi = true := HI.out.2 ⟨fun j x hx => HP.out j x (by have := (List.getElem?_eq_some_iff.1 hx).1; have := HN.out; omega) hx, fun j x y hx hy => HQ.out j x y (by have := (List.getElem?_eq_some_iff.1 hy).1; have := HN.out; omega) hx hy⟩; have HB := Lib.hid hb; have HNE := Lib.hid hne; clear hne hb
    go_wp2_with fail
    go_ret
    exact ⟨congrArg (fun b => Ending.returned (.bool b)) HNE.out.symm, HB.out⟩
end Go.Proofs.YthlinmkengoliaaGreatDoor
