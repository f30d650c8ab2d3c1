/- A literal that is cut off anywhere is ErrTrunc. The short escapes. What the reference answers of an escape, way by way. The reference's escape. The steps of Unquote's loop, as the reference takes them. The reference's Unquote. The reference's Quote. The reference of the cells: whole numbers' texts; hex. The reference of the cells: Text. The reference of the cells: Bits. Bounds of whole numbers. The reference of the cells: Bits, whole. CellWrites: the walk. The reference of the cells: Whole. The reference of the cells: Unhex. The reference of the cells: Unhex, the walk. The reference of the cells: run, the walk. The reference of the cells: what Read answers, in plain terms. The reference of the cells: guess, the walk. The reference of the cells: bare, the walk. The reference of the cells: Unbits. Rows: what is known of cells. Rows: cells stand while only new blocks are written. Schemas: what is a name: the package's answer. Schemas: what is a name: the package's answer, the reference's. Marks: the package's calls but its list. Marks: what is asked of an offset; Step and Fresh. Texts cut at a byte: what the library's SplitN and the loops answer. Schemas, plainly: what may be, said place by place. Schemas: the first place at which something holds; Place and Named. -/
import Derived.Test.YtoapigiapcmjnaaDoorZQa
import Derived.Deep.RegionHeld3
import Derived.Deep.RegionLaw
import Derived.Deep.RegionWith
import Derived.Test.YtoapigiapcmjnaaDoorShelf
import Derived.Shelf.Strings.SlTrimAscii
import Derived.Shelf.Strings.FuncGrows
import Derived.Maps.OwnOps
import Derived.Shelf.SlMaps.Clone
import Derived.Lib.Split
set_option linter.unusedVariables false
namespace Go.Ms
open Go.Lib



end Go.Ms
namespace Go.Ms
open Go.Lib
end Go.Ms
namespace Go.Ms
open Go.Lib

end Go.Ms
namespace Go.Proofs.YtoapigiapcmjnaaDoor
open Go.RowKit Go.Ms Go.Lib


end Go.Proofs.YtoapigiapcmjnaaDoor
namespace Go.Ms
open Go.Lib

end Go.Ms
namespace Go.Proofs.YtoapigiapcmjnaaDoor
open Go.RowKit Go.Ms Go.Lib


end Go.Proofs.YtoapigiapcmjnaaDoor
namespace Go.Proofs.YtoapigiapcmjnaaDoor
open Go.RowKit Go.Ms Go.Lib


end Go.Proofs.YtoapigiapcmjnaaDoor
namespace Go.Ms
open Go.Lib
end Go.Ms
namespace Go.Proofs.YtoapigiapcmjnaaDoor
open Go.RowKit Go.Ms Go.Lib


end Go.Proofs.YtoapigiapcmjnaaDoor
namespace Go.Proofs.YtoapigiapcmjnaaDoor
open Go.RowKit Go.Ms Go.Lib

end Go.Proofs.YtoapigiapcmjnaaDoor
set_option linter.unusedSimpArgs false
namespace Go.Ms
open Go.Lib
/-- The bytes of a number, the highest first, as the reference takes them off. -/
def nb : Nat → Int → Bs
  | 0, _ => []
  | j + 1, u => UInt8.ofNat (u / 72057594037927936).toNat :: nb j (u * 256 % 18446744073709551616)
end Go.Ms
namespace Go.Proofs.YtoapigiapcmjnaaDoor
open Go.RowKit Go.Ms Go.Lib


end Go.Proofs.YtoapigiapcmjnaaDoor
namespace Go.Proofs.YtoapigiapcmjnaaDoor
open Go.RowKit Go.Ms Go.Lib
end Go.Proofs.YtoapigiapcmjnaaDoor
namespace Go.Proofs.YtoapigiapcmjnaaDoor
open Go.RowKit Go.Ms Go.Lib

end Go.Proofs.YtoapigiapcmjnaaDoor
set_option linter.unusedSimpArgs false
namespace Go.Ms
open Go.Lib
end Go.Ms
namespace Go.Proofs.YtoapigiapcmjnaaDoor
open Go.RowKit Go.Ms Go.Lib


end Go.Proofs.YtoapigiapcmjnaaDoor
set_option linter.unusedSimpArgs false
namespace Go.Ms
open Go.Lib
end Go.Ms
namespace Go.Proofs.YtoapigiapcmjnaaDoor
open Go.RowKit Go.Ms Go.Lib
end Go.Proofs.YtoapigiapcmjnaaDoor
set_option linter.unusedSimpArgs false
namespace Go.Proofs.YtoapigiapcmjnaaDoor
open Go.RowKit Go.Ms Go.Lib

end Go.Proofs.YtoapigiapcmjnaaDoor
set_option linter.unusedSimpArgs false
namespace Go.Proofs.YtoapigiapcmjnaaDoor
open Go.RowKit Go.Ms Go.Lib
end Go.Proofs.YtoapigiapcmjnaaDoor
set_option linter.unusedSimpArgs false
namespace Go.Ms
open Go.Lib
end Go.Ms
namespace Go.Proofs.YtoapigiapcmjnaaDoor
open Go.RowKit Go.Ms Go.Lib
end Go.Proofs.YtoapigiapcmjnaaDoor
set_option linter.unusedSimpArgs false
namespace Go.Proofs.YtoapigiapcmjnaaDoor
open Go.RowKit Go.Ms Go.Lib
end Go.Proofs.YtoapigiapcmjnaaDoor
set_option linter.unusedSimpArgs false
namespace Go.Ms
open Go.Lib
end Go.Ms
namespace Go.Proofs.YtoapigiapcmjnaaDoor
open Go.RowKit Go.Ms Go.Lib
end Go.Proofs.YtoapigiapcmjnaaDoor
set_option linter.unusedSimpArgs false
namespace Go.Ms
open Go.Lib
end Go.Ms
namespace Go.Proofs.YtoapigiapcmjnaaDoor
open Go.RowKit Go.Ms Go.Lib
end Go.Proofs.YtoapigiapcmjnaaDoor
namespace Go.Ms
end Go.Ms
namespace Go.Proofs.YtoapigiapcmjnaaDoor
open Go.RowKit Go.Ms Go.Lib
end Go.Proofs.YtoapigiapcmjnaaDoor
set_option linter.unusedSimpArgs false
namespace Go.Ms
open Go.RowKit Go.Lib
def nmSet : Bs := [97, 98, 99, 100, 101, 102, 103, 104, 105, 106, 107, 108, 109, 110, 111, 112, 113, 114, 115, 116, 117, 118, 119, 120, 121, 122, 48, 49, 50, 51, 52, 53, 54, 55, 56, 57, 95]
theorem nmSet_fin : ∀ k : Fin 256, nmSet.contains (UInt8.ofNat k.val) = nmByte (UInt8.ofNat k.val) := by decide +kernel
theorem nmSet_eq (c : UInt8) : nmSet.contains c = nmByte c := by
  have := nmSet_fin ⟨c.toNat, UInt8.toNat_lt c⟩
  simpa using this
theorem dropW_nil (p : UInt8 → Bool) : ∀ l : Bs, l.dropWhile p = [] ↔ l.all p = true
  | [] => by simp
  | c :: r => by
    rw [List.dropWhile_cons, List.all_cons, Bool.and_eq_true]
    split
    · rename_i h
      rw [dropW_nil p r]
      simp [h]
    · rename_i h
      simp [h]
theorem dropW_head (p : UInt8 → Bool) : ∀ l : Bs, l.dropWhile p = [] ∨ ∃ a t, l.dropWhile p = a :: t ∧ p a = false
  | [] => .inl rfl
  | c :: r => by
    rw [List.dropWhile_cons]
    split
    · exact dropW_head p r
    · rename_i h
      exact .inr ⟨c, r, rfl, by simpa using h⟩
theorem trimS_nil (l cs : Bs) : trimS l cs = [] ↔ l.all (fun c => cs.contains c) = true := by
  unfold trimS trimLeftS trimRightS
  rw [dropW_nil]
  have e := dropW_nil (fun c => cs.contains c) l.reverse
  rw [List.all_reverse] at e
  rw [← e]
  rcases dropW_head (fun c => cs.contains c) l.reverse with h | ⟨a, t, h, ha⟩
  · rw [h]; simp
  · rw [h, List.all_reverse, List.all_cons]
    simp only [ha, Bool.false_and, Bool.false_eq_true, reduceCtorEq]
def oddP (r : Nat) : Bool := (decide (r < 97) || decide (122 < r)) && (decide (r < 48) || decide (57 < r)) && decide (r ≠ 95)
theorem oddP_nm {c : UInt8} (h : nmByte c = true) : oddP c.toNat = false ∧ c.toNat < 128 := by
  unfold nmByte nmFirst at h
  unfold oddP
  simp only [Bool.or_eq_true, Bool.and_eq_true, decide_eq_true_eq] at h
  rcases h with (⟨h1, h2⟩ | ⟨h1, h2⟩) | h
  · exact ⟨by rw [decide_eq_false (by omega : ¬ c.toNat < 97), decide_eq_false (by omega : ¬ 122 < c.toNat)]; rfl, by omega⟩
  · exact ⟨by rw [decide_eq_false (by omega : ¬ c.toNat < 48), decide_eq_false (by omega : ¬ 57 < c.toNat), Bool.or_self, Bool.and_false]; rfl, by omega⟩
  · exact ⟨by rw [h]; rfl, by omega⟩
theorem idx_none {S : ByteArray} (h : ∀ c ∈ S.data.toList, nmByte c = true) : ∀ (f pos : Nat), idxFuncFrom oddP true S f pos = -1
  | 0, pos => rfl
  | f + 1, pos => by
    unfold idxFuncFrom
    split
    · rename_i hp
      have hm : S.get! pos ∈ S.data.toList := by
        have : S.get! pos = S.data[pos]'hp := by
          show S.data[pos]! = _
          exact getElem!_pos S.data pos hp
        rw [this]
        exact Array.mem_toList_iff.2 (Array.getElem_mem hp)
      obtain ⟨ho, hlt⟩ := oddP_nm (h _ hm)
      have hd : Utf8.decode S pos = ((S.get! pos).toNat, 1) := by
        unfold Utf8.decode
        simp only [Nat.add_zero]
        rw [if_pos (by omega)]
      rw [hd]
      simp only [ho, Bool.false_eq_true, if_false]
      exact idx_none h f _
    · rfl
end Go.Ms
namespace Go.Proofs.YtoapigiapcmjnaaDoor
open Go.RowKit Go.Ms Go.Lib
theorem odd_any (r : Nat) (w : World) (hr : r ≤ 1114111) :
    Calls Tryd.prog 32 #[.int .i32 r] w fun e w' => e = .returned (.bool (oddP r)) ∧ Below w.heap.size w w' := by
  have hd : oddP r = ((decide ((r : Int) < 97) || decide (122 < (r : Int))) && (decide ((r : Int) < 48) || decide (57 < (r : Int))) && ((r : Int) != 95)) := by
    unfold oddP
    have e1 : ((r : Int) != 95) = decide (r ≠ 95) := by
      by_cases h : r = 95
      · subst h; rfl
      · rw [decide_eq_true h]; simpa using (by omega : ¬ (r : Int) = 95)
    rw [e1]
    congr 2
    · congr 1
      · exact decide_eq_decide.2 (by omega)
      · exact decide_eq_decide.2 (by omega)
    · congr 1
      · exact decide_eq_decide.2 (by omega)
      · exact decide_eq_decide.2 (by omega)
  rw [hd]
  clear hd
  go_enter Tryd.func32, Tryd.ntmps32
  go_wp2_with fail
  all_goals go_ret
  all_goals (refine ⟨?_, Below.refl _ _⟩; first | (congr 2; done) | (congr 2; simp only [Bool.and_eq_true, Bool.or_eq_true, Bool.eq_iff_iff, decide_eq_true_eq, bne_iff_ne, ne_eq]; omega) | (congr 2; simp; omega))
end Go.Proofs.YtoapigiapcmjnaaDoor
set_option linter.unusedSimpArgs false
namespace Go.Proofs.YtoapigiapcmjnaaDoor
open Go.RowKit Go.Ms Go.Lib
set_option maxRecDepth 100000 in
set_option maxHeartbeats 1000000 in
theorem isname_any (S : ByteArray) (w : World) (hs : S.size ≤ 100000) :
    Calls Tryd.prog 26 #[.string S] w fun e w' => e = .returned (.bool (isNm S.data.toList)) ∧ Below w.heap.size w w' := by
  have hT : ∀ w, Calls Tryd.prog 30 #[.string S, .string ⟨#[97, 98, 99, 100, 101, 102, 103, 104, 105, 106, 107, 108, 109, 110, 111, 112, 113, 114, 115, 116, 117, 118, 119, 120, 121, 122, 48, 49, 50, 51, 52, 53, 54, 55, 56, 57, 95]⟩] w fun e w' => e = .returned (.string ⟨(Lib.trimS S.data.toList (ByteArray.mk #[97, 98, 99, 100, 101, 102, 103, 104, 105, 106, 107, 108, 109, 110, 111, 112, 113, 114, 115, 116, 117, 118, 119, 120, 121, 122, 48, 49, 50, 51, 52, 53, 54, 55, 56, 57, 95]).data.toList).toArray⟩) ∧ Below w.heap.size w w' := fun w => (Any.strings_Trim_laid Tryd.lays160 (by kernel_rfl) S ⟨#[97, 98, 99, 100, 101, 102, 103, 104, 105, 106, 107, 108, 109, 110, 111, 112, 113, 114, 115, 116, 117, 118, 119, 120, 121, 122, 48, 49, 50, 51, 52, 53, 54, 55, 56, 57, 95]⟩ w (by omega) (by decide) (ascii_of_all (by decide)))
  have hTr : Lib.trimS S.data.toList (ByteArray.mk #[97, 98, 99, 100, 101, 102, 103, 104, 105, 106, 107, 108, 109, 110, 111, 112, 113, 114, 115, 116, 117, 118, 119, 120, 121, 122, 48, 49, 50, 51, 52, 53, 54, 55, 56, 57, 95]).data.toList = Lib.trimS S.data.toList nmSet := rfl
  have hall : Lib.trimS S.data.toList nmSet = [] ↔ S.data.toList.all nmByte = true := by
    rw [trimS_nil]
    have : (fun c => nmSet.contains c) = nmByte := funext nmSet_eq
    rw [this]
  obtain ⟨L, hL⟩ : ∃ L, Lib.trimS S.data.toList nmSet = L := ⟨_, rfl⟩
  rw [hL] at hall
  simp only [hTr, hL] at hT
  have HT := Lib.hid hT; have HA := Lib.hid hall
  clear hT hTr hL hall
  have hlen : S.data.toList.length = S.size := by simp
  by_cases h0 : S.size = 0
  · have hn : isNm S.data.toList = false := by unfold isNm; rw [hlen, h0]; rfl
    have e1 : S.toList = [] := by rw [Lib.toList_data]; exact List.eq_nil_of_length_eq_zero (by rw [hlen]; exact h0)
    rw [hn]
    clear hn hlen
    go_enter Tryd.func26, Tryd.ntmps26
    go_wp2_with fail
    go_ret
    exact ⟨rfl, Below.refl _ _⟩
  have e1 : ¬ S.toList = [] := by rw [Lib.toList_data]; intro e; rw [e] at hlen; simp at hlen; omega
  have h0' : 0 < S.size := by omega
  have e3 : S.toList.isEmpty = false := by rw [List.isEmpty_eq_false_iff]; exact e1
  by_cases h1 : 32 < S.size
  · have hn : isNm S.data.toList = false := by unfold isNm; rw [hlen, decide_eq_false (by omega : ¬ S.size ≤ 32)]; simp
    have h1' : (32 : Int) < S.size := by omega
    rw [hn]
    clear hn hlen
    go_enter Tryd.func26, Tryd.ntmps26
    go_wp2_with fail
    go_ret
    exact ⟨rfl, Below.refl _ _⟩
  have h1' : ¬ (32 : Int) < S.size := by omega
  have hF : S.data.toList.getD 0 0 = S[0]'h0' := by
    rw [List.getD_eq_getElem?_getD, List.getElem?_eq_getElem (by rw [hlen]; exact h0')]
    rfl
  obtain ⟨c, hc⟩ : ∃ c, S[0]'h0' = c := ⟨_, rfl⟩
  rw [hc] at hF
  have hin : c ∈ S.data.toList := by
    rw [← hc]
    exact Array.mem_toList_iff.2 (Array.getElem_mem h0')
  by_cases h2 : c.toNat < 97
  · have hn : isNm S.data.toList = false := by unfold isNm nmFirst; rw [hF, decide_eq_false (by omega : ¬ 97 ≤ c.toNat)]; simp
    have h2' : (c.toNat : Int) < 97 := by omega
    rw [hn]
    clear hn hlen
    go_enter Tryd.func26, Tryd.ntmps26
    go_wp2_with fail
    go_ret
    exact ⟨rfl, Below.refl _ _⟩
  have h2' : ¬ (c.toNat : Int) < 97 := by omega
  by_cases h3 : 122 < c.toNat
  · have hn : isNm S.data.toList = false := by unfold isNm nmFirst; rw [hF, decide_eq_false (by omega : ¬ c.toNat ≤ 122)]; simp
    have h3' : (122 : Int) < c.toNat := by omega
    rw [hn]
    clear hn hlen
    go_enter Tryd.func26, Tryd.ntmps26
    go_wp2_with fail
    go_ret
    exact ⟨rfl, Below.refl _ _⟩
  have h3' : ¬ (122 : Int) < c.toNat := by omega
  by_cases h4 : S.data.toList.all nmByte = true
  · have hn : isNm S.data.toList = true := by unfold isNm nmFirst; rw [hF, hlen, h4]; simp; omega
    obtain rfl : L = [] := HA.out.2 h4
    have hC := fun w => Tryd.strings_ContainsFunc_grows 32 #[] (enters_of Tryd.func32 (by kernel_rfl) rfl) oddP S w (fun W x hx hb => odd_any x W hx)
    have hI : Lib.idxFunc oddP true S = -1 := idx_none (fun c hc => List.all_eq_true.1 h4 c hc) _ _
    rw [hI] at hC
    have HC := Lib.hid hC
    rw [hn]
    clear hn hlen hC hI h4
    go_enter Tryd.func26, Tryd.ntmps26
    go_wp2_with fail
    refine (HT.out _).mono ?_
    rintro en w1 ⟨rfl, b1⟩
    have B1 := Lib.hid b1
    clear b1
    go_wp2_with fail
    refine (HC.out _).mono ?_
    rintro en w2 ⟨rfl, b2⟩
    have B2 := Lib.hid (B1.out.trans (b2.mono B1.out.size))
    clear b2
    go_wp2_with fail
    go_ret
    exact ⟨rfl, B2.out⟩
  · have hn : isNm S.data.toList = false := by unfold isNm; simp only [Bool.not_eq_true] at h4; rw [h4]; simp
    have hL2 : ¬ L = [] := fun e => h4 (HA.out.1 e)
    have e2 : ¬ (ByteArray.mk L.toArray).toList = [] := by rw [Lib.toList_data]; simpa using hL2
    have e4 : (ByteArray.mk L.toArray).toList.isEmpty = false := by rw [List.isEmpty_eq_false_iff]; exact e2
    rw [hn]
    clear hn hlen h4 HA
    go_enter Tryd.func26, Tryd.ntmps26
    go_wp2_with fail
    refine (HT.out _).mono ?_
    rintro en w1 ⟨rfl, b1⟩
    have B1 := Lib.hid b1
    clear b1
    go_wp2_with fail
    go_ret
    exact ⟨rfl, B1.out⟩
end Go.Proofs.YtoapigiapcmjnaaDoor
set_option linter.unusedSimpArgs false
namespace Go.Ms
open Go.RowKit Go.Lib Go.Maps
def mkMay (s : ByteArray) (o : Int) : Bool := isNm s.data.toList && (decide (0 ≤ o) && decide (o ≤ 9007199254740991))
def mkAt {H : Type} (D : DataW H) (s : ByteArray) : Int := match D.atKey (.string s.data.toList) (.lit (.int .i64 0)) with
  | .lit (.int _ c) => c
  | _ => 0
theorem mkAt_of {H : Type} {D : DataW H} {s : ByteArray} {c : Int} (h : D.atKey (.string s.data.toList) (.lit (.int .i64 0)) = .lit (.int .i64 c)) : mkAt D s = c := by
  unfold mkAt
  rw [h]
/-- What is answered of an offset. -/
def mkAns {H : Type} (D : DataW H) (s : ByteArray) (o : Int) : Bool × Int :=
  if mkMay s o = false then (false, 2)
  else if Maps.has D (.string s.data.toList) = false ∧ Maps.size D = 16 then (false, 5)
  else if Maps.has D (.string s.data.toList) = true ∧ o ≤ mkAt D s then (false, 0)
  else (true, 0)
/-- What lies of marks. -/
structure MkSt {H : Type} (P : Program) (tS tI tM : TypeId) (p b n : Nat) (D : DataW H) (w : World) : Prop where
  box : w.heap[p]? = some (.cells #[.map (some b)] tM (0, 0))
  map : w.ownsMap P tS (plainElem P tI) b n D
  ne : p ≠ b
section
variable {H : Type} {P : Program} {tS tI tM : TypeId} {p b n : Nat} {D : DataW H} {w w' : World}
theorem MkSt.below (h : MkSt P tS tI tM p b n D w) (hb : Below w.heap.size w w') : MkSt P tS tI tM p b n D w' :=
  ⟨block_kept h.box hb, h.map.kept (row := none) ⟨hb.os, hb.tape, hb.output, hb.size, fun k hk _ => hb.block k hk⟩ (by simp), h.ne⟩
theorem MkSt.kept {row : Option Nat} (h : MkSt P tS tI tM p b n D w) (hg : w.grownBy w' row) (hp : some p ≠ row) (hb : some b ≠ row) : MkSt P tS tI tM p b n D w' :=
  ⟨(hg.block _ (Array.getElem?_eq_some_iff.1 h.box).1 hp).trans h.box, h.map.kept hg hb, h.ne⟩
theorem MkSt.more (h : MkSt P tS tI tM p b n D w) {m : Nat} (hm : n ≤ m) : MkSt P tS tI tM p b m D w := ⟨h.box, h.map.mono hm, h.ne⟩
end
end Go.Ms
namespace Go.Proofs.YtoapigiapcmjnaaDoor
open Go.RowKit Go.Ms Go.Lib Go.Maps Go.WideMaps
theorem mk_law : Keyed Tryd.prog 9 := string_keyed Tryd.underlying9
theorem mk_zero (w : World) : (zeroValue 2).run Tryd.prog w = .ok (.int .i64 0) w := by kernel_rfl
abbrev MkSt0 {H : Type} (p b n : Nat) (D : DataW H) (w : World) : Prop := MkSt Tryd.prog 9 2 50 p b n D w
theorem mk_key (s : ByteArray) (hs : s.size ≤ 100000) : keyOf Tryd.prog 9 (.string s) = some (.string s.data.toList) := keyOf_string_mk Tryd.underlying9 (by unfold maxLen; omega)
theorem mknew_any (w : World) : Calls Tryd.prog 7 #[] w fun e w' => ∃ p b, e = .returned (.pointer (some ⟨p, 0, none⟩)) ∧ MkSt0 (H := Unit) p b 0 (.map []) w' ∧ Below w.heap.size w w' ∧ w.heap.size ≤ p ∧ w.heap.size ≤ b := by
  have hmm := @run_makeMap Tryd.prog
  go_enter Tryd.func7, Tryd.ntmps7
  go_wp2_with fail
  go_ret
  refine ⟨w.heap.size + 1, w.heap.size, rfl, ⟨?_, ?_, ?_⟩, ((Below.refl _ w).alloc (Nat.le_refl _) _).alloc (by rw [World.size_alloc]; omega) _, by omega, Nat.le_refl _⟩
  · have := block_new (w.alloc (.map #[] 0)) (.cells #[.map (some w.heap.size)] 50)
    rwa [World.size_alloc] at this
  · exact (World.ownsMap_made w Tryd.prog 9 _).alloc _
  · omega
set_option maxRecDepth 100000 in
theorem mkmay_any (s : ByteArray) (o : Int) (w : World) (hs : s.size ≤ 100000) :
    Calls Tryd.prog 22 #[.string s, .int .i64 o] w fun e w' => e = .returned (.bool (mkMay s o)) ∧ Below w.heap.size w w' := by
  have hn := isname_any s w hs
  have HN := Lib.hid hn
  clear hn
  cases hb : isNm s.data.toList with
  | false =>
    have hm : mkMay s o = false := by unfold mkMay; rw [hb]; rfl
    rw [hb] at HN
    rw [hm]
    clear hm hb
    go_enter Tryd.func22, Tryd.ntmps22
    go_wp2_with fail
    refine HN.out.mono ?_
    rintro e w1 ⟨rfl, b1⟩
    go_wp2_with fail
    go_ret
    exact ⟨rfl, b1⟩
  | true =>
    have hm : mkMay s o = (decide (0 ≤ o) && decide (o ≤ 9007199254740991)) := by unfold mkMay; rw [hb]; rfl
    rw [hb] at HN
    rw [hm]
    clear hm hb
    by_cases h0 : 0 ≤ o
    · by_cases h1 : o ≤ 9007199254740991
      · go_enter Tryd.func22, Tryd.ntmps22
        go_wp2_with fail
        refine HN.out.mono ?_
        rintro e w1 ⟨rfl, b1⟩
        go_wp2_with fail
        go_ret
        exact ⟨by simp [h0, h1], b1⟩
      · go_enter Tryd.func22, Tryd.ntmps22
        go_wp2_with fail
        refine HN.out.mono ?_
        rintro e w1 ⟨rfl, b1⟩
        go_wp2_with fail
        go_ret
        exact ⟨by simp [h0, h1], b1⟩
    · go_enter Tryd.func22, Tryd.ntmps22
      go_wp2_with fail
      refine HN.out.mono ?_
      rintro e w1 ⟨rfl, b1⟩
      go_wp2_with fail
      go_ret
      exact ⟨by simp; omega, b1⟩
theorem mkset_any {H : Type} (p b n : Nat) (D : DataW H) (s : ByteArray) (o : Int) (w : World) (hs : s.size ≤ 100000) (hst : MkSt0 p b n D w) (hn : n < 1000000) (ho : (Lit.int .i64 o).wf = true) :
    Calls Tryd.prog 18 #[.pointer (some ⟨p, 0, none⟩), .string s, .int .i64 o] w fun e w' => (∃ v, e = .returned v) ∧ MkSt0 p b (n + 1) (D.put (.string s.data.toList) (.lit (.int .i64 o))) w' ∧ w.grownBy w' (some b) := by
  have hkey := mk_key s hs
  have c0 := cell_of_block (i := 0) hst.box rfl
  have HST := Lib.hid hst
  clear hst
  go_enter Tryd.func18, Tryd.ntmps18
  go_wp2_with (first
    | (at_mapUpdate; refine wpList_mapUpdate_own _ rfl _ _ _ 48 rfl 9 2 mk_law Tryd.underlying48 _ b n D rfl HST.out.map (by unfold maxLen; omega) _ _ _ rfl rfl hkey _ [] (plainElem_int Tryd.underlying2 ho) ?_; intro w1 hown1 hg1))
  go_end0
  exact ⟨⟨_, rfl⟩, ⟨(hg1.block _ (Array.getElem?_eq_some_iff.1 HST.out.box).1 (by simpa using HST.out.ne)).trans HST.out.box, hown1, HST.out.ne⟩, hg1⟩
theorem mkpass_any (p : Option Addr) (s : ByteArray) (o : Int) (w : World) :
    Calls Tryd.prog 17 #[.pointer p, .string s, .int .i64 o] w fun e w' => (∃ v, e = .returned v) ∧ w' = w := by
  go_enter Tryd.func17, Tryd.ntmps17
  go_wp2_with fail
  go_end0
  exact ⟨⟨_, rfl⟩, rfl⟩
end Go.Proofs.YtoapigiapcmjnaaDoor
set_option linter.unusedSimpArgs false
namespace Go.Ms
open Go.RowKit Go.Lib Go.Maps
def mkNext {H : Type} (D : DataW H) (s : ByteArray) (o : Int) : DataW H := if (mkAns D s o).1 = true then D.put (.string s.data.toList) (.lit (.int .i64 o)) else D
theorem mkbelow_grown {w w' : World} (h : Below w.heap.size w w') (row : Option Nat) : w.grownBy w' row := ⟨h.os, h.tape, h.output, h.size, fun k hk _ => h.block k hk⟩
theorem grown_trans {w w1 w2 : World} {row : Option Nat} (h : w.grownBy w1 row) (k : w1.grownBy w2 row) : w.grownBy w2 row :=
  ⟨k.os.trans h.os, k.tape.trans h.tape, k.output.trans h.output, Nat.le_trans h.size k.size, fun i hi hne => (k.block i (Nat.lt_of_lt_of_le hi h.size) hne).trans (h.block i hi hne)⟩
end Go.Ms
namespace Go.Proofs.YtoapigiapcmjnaaDoor
open Go.RowKit Go.Ms Go.Lib Go.Maps
set_option maxRecDepth 100000 in
set_option maxHeartbeats 1000000 in
theorem mkaskset_any {H : Type} (p b n : Nat) (D : DataW H) (s : ByteArray) (o : Int) (w : World) (hs : s.size ≤ 100000) (hst : MkSt0 p b n D w) (hn : n < 1000000) :
    Calls Tryd.prog 16 #[.pointer (some ⟨p, 0, none⟩), .string s, .int .i64 o, .func (.func 18) #[.pointer (some ⟨p, 0, none⟩)] #[]] w fun e w' => e = .returned (.tuple #[.bool (mkAns D s o).1, .int .i64 (mkAns D s o).2]) ∧ MkSt0 p b (n + 1) (mkNext D s o) w' ∧ w.grownBy w' (some b) := by
  have hkey := mk_key s hs
  have hm := mkmay_any s o w hs
  have c0 := cell_of_block (i := 0) hst.box rfl
  have hq := fun w => run_eql_map_nil_sl (P := Tryd.prog) w 48 _ _ (some b) Tryd.underlying48
  have HST := Lib.hid hst; have HM := Lib.hid hm
  clear hst hm
  cases hmay : mkMay s o with
  | false =>
    have ha : mkAns D s o = (false, 2) := by unfold mkAns; rw [if_pos hmay]
    have HA := Lib.hid ha
    rw [hmay] at HM
    rw [HA.out]
    clear ha
    go_enter Tryd.func16, Tryd.ntmps16
    go_wp2_with fail
    refine HM.out.mono ?_
    rintro e w1 ⟨rfl, b1⟩
    have S1 := Lib.hid (HST.out.below b1)
    have B1 := Lib.hid b1
    clear b1
    go_wp2_with fail
    go_ret2
    refine ⟨rfl, ?_⟩
    exact ⟨by unfold mkNext; rw [HA.out]; exact S1.out.more (Nat.le_succ _), mkbelow_grown B1.out _⟩
  | true =>
    rw [hmay] at HM
    have hwf : (Lit.int .i64 o).wf = true := by
      have h2 := hmay
      unfold mkMay at h2
      simp only [Bool.and_eq_true, decide_eq_true_eq] at h2
      exact WalkArith.wf_i64 (by omega)
    cases hh : Maps.has D (.string s.data.toList) with
    | false =>
      by_cases hz : Maps.size D = 16
      · have ha : mkAns D s o = (false, 5) := by unfold mkAns; rw [if_neg (by rw [hmay]; simp), if_pos ⟨hh, hz⟩]
        have HA := Lib.hid ha
        rw [HA.out]
        clear ha
        go_enter Tryd.func16, Tryd.ntmps16
        go_wp2_with fail
        refine HM.out.mono ?_
        rintro e w1 ⟨rfl, b1⟩
        have s1 := HST.out.below b1
        have c1 := cell_of_block (i := 0) s1.box rfl
        have hml := fun ty => World.ownsMap.len s1.map Tryd.underlying48 ty
        rw [hz] at hml
        have S1 := Lib.hid s1
        have B1 := Lib.hid b1
        clear b1 s1
        go_wp2_with (first
          | (at_lookup; refine wpList_lookup_own_ok_int _ rfl _ _ 48 rfl 9 2 .i64 mk_law Tryd.underlying48 Tryd.underlying2 (mk_zero _) b n D rfl S1.out.map _ _ rfl hkey ?_; intro c hat hwc; have HAT := Lib.hid hat; clear hat hwc))
        go_ret2
        refine ⟨rfl, ?_⟩
        exact ⟨by unfold mkNext; rw [HA.out]; exact S1.out.more (Nat.le_succ _), mkbelow_grown B1.out _⟩
      · have ha : mkAns D s o = (true, 0) := by unfold mkAns; rw [if_neg (by rw [hmay]; simp), if_neg (fun h => hz h.2), if_neg (fun h => by rw [hh] at h; cases h.1)]
        have HA := Lib.hid ha
        have hz' : ((Maps.size D : Int) == 16) = false := by rw [beq_eq_false_iff_ne]; omega
        rw [HA.out]
        clear ha
        go_enter Tryd.func16, Tryd.ntmps16
        go_wp2_with fail
        refine HM.out.mono ?_
        rintro e w1 ⟨rfl, b1⟩
        have s1 := HST.out.below b1
        have c1 := cell_of_block (i := 0) s1.box rfl
        have hml := fun ty => World.ownsMap.len s1.map Tryd.underlying48 ty
        have S1 := Lib.hid s1
        have B1 := Lib.hid b1
        clear b1 s1
        go_wp2_with (first
          | (at_lookup; refine wpList_lookup_own_ok_int _ rfl _ _ 48 rfl 9 2 .i64 mk_law Tryd.underlying48 Tryd.underlying2 (mk_zero _) b n D rfl S1.out.map _ _ rfl hkey ?_; intro c hat hwc; have HAT := Lib.hid hat; clear hat hwc))
        refine (mkset_any p b n D s o w1 hs S1.out hn hwf).mono ?_
        rintro e w2 ⟨⟨v, rfl⟩, s2, g2⟩
        have S2 := Lib.hid s2; have G2 := Lib.hid g2
        clear s2 g2
        go_wp2_with fail
        go_ret2
        refine ⟨rfl, ?_, grown_trans (mkbelow_grown B1.out _) G2.out⟩
        unfold mkNext
        rw [HA.out]
        exact S2.out
    | true =>
      obtain ⟨c, hc⟩ : ∃ c, mkAt D s = c := ⟨_, rfl⟩
      by_cases hle : o ≤ c
      · have ha : mkAns D s o = (false, 0) := by unfold mkAns; rw [if_neg (by rw [hmay]; simp), if_neg (fun h => by rw [hh] at h; cases h.1), if_pos ⟨hh, by rw [hc]; exact hle⟩]
        have HA := Lib.hid ha
        rw [HA.out]
        clear ha
        have HC := Lib.hid hc
        clear hc
        go_enter Tryd.func16, Tryd.ntmps16
        go_wp2_with fail
        refine HM.out.mono ?_
        rintro e w1 ⟨rfl, b1⟩
        have s1 := HST.out.below b1
        have c1 := cell_of_block (i := 0) s1.box rfl
        have S1 := Lib.hid s1
        have B1 := Lib.hid b1
        clear b1 s1
        go_wp2_with (first
          | (at_lookup; refine wpList_lookup_own_ok_int _ rfl _ _ 48 rfl 9 2 .i64 mk_law Tryd.underlying48 Tryd.underlying2 (mk_zero _) b n D rfl S1.out.map _ _ rfl hkey ?_; intro c2 hat hwc; obtain rfl : c2 = c := (mkAt_of hat).symm.trans HC.out; clear hat hwc))
        go_ret2
        refine ⟨rfl, ?_⟩
        exact ⟨by unfold mkNext; rw [HA.out]; exact S1.out.more (Nat.le_succ _), mkbelow_grown B1.out _⟩
      · have ha : mkAns D s o = (true, 0) := by unfold mkAns; rw [if_neg (by rw [hmay]; simp), if_neg (fun h => by rw [hh] at h; cases h.1), if_neg (fun h => hle (by rw [← hc]; exact h.2))]
        have HA := Lib.hid ha
        rw [HA.out]
        clear ha
        have HC := Lib.hid hc
        clear hc
        go_enter Tryd.func16, Tryd.ntmps16
        go_wp2_with fail
        refine HM.out.mono ?_
        rintro e w1 ⟨rfl, b1⟩
        have s1 := HST.out.below b1
        have c1 := cell_of_block (i := 0) s1.box rfl
        have S1 := Lib.hid s1
        have B1 := Lib.hid b1
        clear b1 s1
        go_wp2_with (first
          | (at_lookup; refine wpList_lookup_own_ok_int _ rfl _ _ 48 rfl 9 2 .i64 mk_law Tryd.underlying48 Tryd.underlying2 (mk_zero _) b n D rfl S1.out.map _ _ rfl hkey ?_; intro c2 hat hwc; obtain rfl : c2 = c := (mkAt_of hat).symm.trans HC.out; clear hat hwc))
        refine (mkset_any p b n D s o w1 hs S1.out hn hwf).mono ?_
        rintro e w2 ⟨⟨v, rfl⟩, s2, g2⟩
        have S2 := Lib.hid s2; have G2 := Lib.hid g2
        clear s2 g2
        go_wp2_with fail
        go_ret2
        refine ⟨rfl, ?_, grown_trans (mkbelow_grown B1.out _) G2.out⟩
        unfold mkNext
        rw [HA.out]
        exact S2.out
set_option maxRecDepth 100000 in
set_option maxHeartbeats 1000000 in
theorem mkaskpass_any {H : Type} (p b n : Nat) (D : DataW H) (s : ByteArray) (o : Int) (w : World) (hs : s.size ≤ 100000) (hst : MkSt0 p b n D w) (hn : n < 1000000) :
    Calls Tryd.prog 16 #[.pointer (some ⟨p, 0, none⟩), .string s, .int .i64 o, .func (.func 17) #[.pointer (some ⟨p, 0, none⟩)] #[]] w fun e w' => e = .returned (.tuple #[.bool (mkAns D s o).1, .int .i64 (mkAns D s o).2]) ∧ MkSt0 p b n D w' ∧ Below w.heap.size w w' := by
  have hkey := mk_key s hs
  have hm := mkmay_any s o w hs
  have c0 := cell_of_block (i := 0) hst.box rfl
  have hq := fun w => run_eql_map_nil_sl (P := Tryd.prog) w 48 _ _ (some b) Tryd.underlying48
  have HST := Lib.hid hst; have HM := Lib.hid hm
  clear hst hm
  cases hmay : mkMay s o with
  | false =>
    have ha : mkAns D s o = (false, 2) := by unfold mkAns; rw [if_pos hmay]
    have HA := Lib.hid ha
    rw [hmay] at HM
    rw [HA.out]
    clear ha
    go_enter Tryd.func16, Tryd.ntmps16
    go_wp2_with fail
    refine HM.out.mono ?_
    rintro e w1 ⟨rfl, b1⟩
    have S1 := Lib.hid (HST.out.below b1)
    have B1 := Lib.hid b1
    clear b1
    go_wp2_with fail
    go_ret2
    refine ⟨rfl, ?_⟩
    exact ⟨S1.out, B1.out⟩
  | true =>
    rw [hmay] at HM
    have hwf : (Lit.int .i64 o).wf = true := by
      have h2 := hmay
      unfold mkMay at h2
      simp only [Bool.and_eq_true, decide_eq_true_eq] at h2
      exact WalkArith.wf_i64 (by omega)
    cases hh : Maps.has D (.string s.data.toList) with
    | false =>
      by_cases hz : Maps.size D = 16
      · have ha : mkAns D s o = (false, 5) := by unfold mkAns; rw [if_neg (by rw [hmay]; simp), if_pos ⟨hh, hz⟩]
        have HA := Lib.hid ha
        rw [HA.out]
        clear ha
        go_enter Tryd.func16, Tryd.ntmps16
        go_wp2_with fail
        refine HM.out.mono ?_
        rintro e w1 ⟨rfl, b1⟩
        have s1 := HST.out.below b1
        have c1 := cell_of_block (i := 0) s1.box rfl
        have hml := fun ty => World.ownsMap.len s1.map Tryd.underlying48 ty
        rw [hz] at hml
        have S1 := Lib.hid s1
        have B1 := Lib.hid b1
        clear b1 s1
        go_wp2_with (first
          | (at_lookup; refine wpList_lookup_own_ok_int _ rfl _ _ 48 rfl 9 2 .i64 mk_law Tryd.underlying48 Tryd.underlying2 (mk_zero _) b n D rfl S1.out.map _ _ rfl hkey ?_; intro c hat hwc; have HAT := Lib.hid hat; clear hat hwc))
        go_ret2
        refine ⟨rfl, ?_⟩
        exact ⟨S1.out, B1.out⟩
      · have ha : mkAns D s o = (true, 0) := by unfold mkAns; rw [if_neg (by rw [hmay]; simp), if_neg (fun h => hz h.2), if_neg (fun h => by rw [hh] at h; cases h.1)]
        have HA := Lib.hid ha
        have hz' : ((Maps.size D : Int) == 16) = false := by rw [beq_eq_false_iff_ne]; omega
        rw [HA.out]
        clear ha
        go_enter Tryd.func16, Tryd.ntmps16
        go_wp2_with fail
        refine HM.out.mono ?_
        rintro e w1 ⟨rfl, b1⟩
        have s1 := HST.out.below b1
        have c1 := cell_of_block (i := 0) s1.box rfl
        have hml := fun ty => World.ownsMap.len s1.map Tryd.underlying48 ty
        have S1 := Lib.hid s1
        have B1 := Lib.hid b1
        clear b1 s1
        go_wp2_with (first
          | (at_lookup; refine wpList_lookup_own_ok_int _ rfl _ _ 48 rfl 9 2 .i64 mk_law Tryd.underlying48 Tryd.underlying2 (mk_zero _) b n D rfl S1.out.map _ _ rfl hkey ?_; intro c hat hwc; have HAT := Lib.hid hat; clear hat hwc))
        refine (mkpass_any _ s o w1).mono ?_
        rintro e w2 ⟨⟨v, rfl⟩, rfl⟩
        go_wp2_with fail
        go_ret2
        exact ⟨rfl, S1.out, B1.out⟩
    | true =>
      obtain ⟨c, hc⟩ : ∃ c, mkAt D s = c := ⟨_, rfl⟩
      by_cases hle : o ≤ c
      · have ha : mkAns D s o = (false, 0) := by unfold mkAns; rw [if_neg (by rw [hmay]; simp), if_neg (fun h => by rw [hh] at h; cases h.1), if_pos ⟨hh, by rw [hc]; exact hle⟩]
        have HA := Lib.hid ha
        rw [HA.out]
        clear ha
        have HC := Lib.hid hc
        clear hc
        go_enter Tryd.func16, Tryd.ntmps16
        go_wp2_with fail
        refine HM.out.mono ?_
        rintro e w1 ⟨rfl, b1⟩
        have s1 := HST.out.below b1
        have c1 := cell_of_block (i := 0) s1.box rfl
        have S1 := Lib.hid s1
        have B1 := Lib.hid b1
        clear b1 s1
        go_wp2_with (first
          | (at_lookup; refine wpList_lookup_own_ok_int _ rfl _ _ 48 rfl 9 2 .i64 mk_law Tryd.underlying48 Tryd.underlying2 (mk_zero _) b n D rfl S1.out.map _ _ rfl hkey ?_; intro c2 hat hwc; obtain rfl : c2 = c := (mkAt_of hat).symm.trans HC.out; clear hat hwc))
        go_ret2
        refine ⟨rfl, ?_⟩
        exact ⟨S1.out, B1.out⟩
      · have ha : mkAns D s o = (true, 0) := by unfold mkAns; rw [if_neg (by rw [hmay]; simp), if_neg (fun h => by rw [hh] at h; cases h.1), if_neg (fun h => hle (by rw [← hc]; exact h.2))]
        have HA := Lib.hid ha
        rw [HA.out]
        clear ha
        have HC := Lib.hid hc
        clear hc
        go_enter Tryd.func16, Tryd.ntmps16
        go_wp2_with fail
        refine HM.out.mono ?_
        rintro e w1 ⟨rfl, b1⟩
        have s1 := HST.out.below b1
        have c1 := cell_of_block (i := 0) s1.box rfl
        have S1 := Lib.hid s1
        have B1 := Lib.hid b1
        clear b1 s1
        go_wp2_with (first
          | (at_lookup; refine wpList_lookup_own_ok_int _ rfl _ _ 48 rfl 9 2 .i64 mk_law Tryd.underlying48 Tryd.underlying2 (mk_zero _) b n D rfl S1.out.map _ _ rfl hkey ?_; intro c2 hat hwc; obtain rfl : c2 = c := (mkAt_of hat).symm.trans HC.out; clear hat hwc))
        refine (mkpass_any _ s o w1).mono ?_
        rintro e w2 ⟨⟨v, rfl⟩, rfl⟩
        go_wp2_with fail
        go_ret2
        exact ⟨rfl, S1.out, B1.out⟩
theorem mkstep_any {H : Type} (p b n : Nat) (D : DataW H) (s : ByteArray) (o : Int) (w : World) (hs : s.size ≤ 100000) (hst : MkSt0 p b n D w) (hn : n < 1000000) :
    Calls Tryd.prog 11 #[.pointer (some ⟨p, 0, none⟩), .string s, .int .i64 o] w fun e w' => e = .returned (.tuple #[.bool (mkAns D s o).1, .int .i64 (mkAns D s o).2]) ∧ MkSt0 p b (n + 1) (mkNext D s o) w' ∧ w.grownBy w' (some b) := by
  have h := mkaskset_any p b n D s o w hs hst hn
  have HH := Lib.hid h
  clear h hst
  generalize mkAns D s o = X at HH
  go_enter Tryd.func11, Tryd.ntmps11
  go_wp2_with fail
  refine HH.out.mono ?_
  rintro e w1 ⟨rfl, h1, h2⟩
  have H1 := Lib.hid h1; have H2 := Lib.hid h2
  clear h1 h2
  go_wp2_with fail
  go_ret2
  exact ⟨rfl, H1.out, H2.out⟩
theorem mkfresh_any {H : Type} (p b n : Nat) (D : DataW H) (s : ByteArray) (o : Int) (w : World) (hs : s.size ≤ 100000) (hst : MkSt0 p b n D w) (hn : n < 1000000) :
    Calls Tryd.prog 9 #[.pointer (some ⟨p, 0, none⟩), .string s, .int .i64 o] w fun e w' => e = .returned (.tuple #[.bool (mkAns D s o).1, .int .i64 (mkAns D s o).2]) ∧ MkSt0 p b n D w' ∧ Below w.heap.size w w' := by
  have h := mkaskpass_any p b n D s o w hs hst hn
  have HH := Lib.hid h
  clear h hst
  generalize mkAns D s o = X at HH
  go_enter Tryd.func9, Tryd.ntmps9
  go_wp2_with fail
  refine HH.out.mono ?_
  rintro e w1 ⟨rfl, h1, h2⟩
  have H1 := Lib.hid h1; have H2 := Lib.hid h2
  clear h1 h2
  go_wp2_with fail
  go_ret2
  exact ⟨rfl, H1.out, H2.out⟩
end Go.Proofs.YtoapigiapcmjnaaDoor
set_option linter.unusedSimpArgs false
namespace Go.Ms
open Go.Lib
end Go.Ms
set_option linter.unusedSimpArgs false
namespace Go.Ms
open Go.Lib
end Go.Ms
set_option linter.unusedSimpArgs false
namespace Go.Ms
open Go.RowKit Go.Lib
end Go.Ms
namespace Go.Proofs.YtoapigiapcmjnaaDoor
open Go.RowKit Go.Ms Go.Lib
end Go.Proofs.YtoapigiapcmjnaaDoor
