/- Evolve's laws: a column of a number. -/
import Derived.Test.YtikpmmipopmjaaaGreatDoorZQaj
import Derived.Test.YtikpmmipopmjaaaGreatDoorZQas
import Derived.Test.YtikpmmipopmjaaaGreatDoorZQau
set_option linter.unusedVariables false
set_option linter.unusedSimpArgs false
namespace Go.Ms
open Go.RowKit Go.Lib
theorem qEy {w:World} {b:Nat} {x0 x1 x2 x3 x4 x5 x6:Value} {T:TypeId} (h:w.heap[b]?=some (.cells #[x0,x1,x2,x3,x4,x5,x6] T (0,0))) (p0 p1 p2 p3 p4 p5 p6:Value) :
    (((((((w.setCell ⟨b,0,none⟩ p0).setCell ⟨b,1,none⟩ p1).setCell ⟨b,2,none⟩ p2).setCell ⟨b,3,none⟩ p3).setCell ⟨b,4,none⟩ p4).setCell ⟨b,5,none⟩ p5).setCell ⟨b,6,none⟩ p6).heap[b]?=some (.cells #[p0,p1,p2,p3,p4,p5,p6] T (0,0)):=by
 simp[World.setCell,Array.getElem?_modify,h]
theorem qC7 {B:Nat} {w0 w:World} {b:Nat} (h:Below B w0 w) (hb:B≤b) (p0 p1 p2 p3 p4 p5 p6:Value) :
    Below B w0 (((((((w.setCell ⟨b,0,none⟩ p0).setCell ⟨b,1,none⟩ p1).setCell ⟨b,2,none⟩ p2).setCell ⟨b,3,none⟩ p3).setCell ⟨b,4,none⟩ p4).setCell ⟨b,5,none⟩ p5).setCell ⟨b,6,none⟩ p6):=
  ((((((h.setCell (p:=⟨b,0,none⟩) hb _).setCell (p:=⟨b,1,none⟩) hb _).setCell (p:=⟨b,2,none⟩) hb _).setCell (p:=⟨b,3,none⟩) hb _).setCell (p:=⟨b,4,none⟩) hb _).setCell (p:=⟨b,5,none⟩) hb _).setCell (p:=⟨b,6,none⟩) hb _
end Go.Ms
namespace Go.Proofs.YtikpmmipopmjaaaGreatDoor
open Go.RowKit Go.Ms Go.Lib Go.Shelf Go.Rel
set_option maxRecDepth 100000 in
set_option maxHeartbeats 4000000 in
theorem qRb (n:Int) (h0: -9223372036854775808≤n) (h1:n≤9223372036854775807) (w:World):Calls Tryz.prog 51 #[.int .i64 n] w fun e w'=>e=.returned (coA (qE3 0 ⟨#[]⟩ (n%8)))∧Below w.heap.size w w':=by
 obtain⟨X,hX⟩:∃X,X=w.alloc (.cells #[.int .i64 0,.string ⟨#[]⟩,.int .i64 0,.bool false,.bool false,.int .i64 0,.string ⟨#[]⟩] 59):=⟨_,rfl⟩
 have bX:Below w.heap.size w X:=by rw[hX];exact(Below.refl _ w).alloc (Nat.le_refl _) _
 have qX:X.heap[w.heap.size]?=some (.cells #[.int .i64 0,.string ⟨#[]⟩,.int .i64 0,.bool false,.bool false,.int .i64 0,.string ⟨#[]⟩] 59 (0,0)):=by rw[hX];exact qAf _ _
 have hb:=qB0 n 8 h0 h1 (by omega) (by omega) X
 have HB:=Lib.hid hb;have BX:=Lib.hid bX;have QX:=Lib.hid qX
 clear hb bX qX
 rcases qNn (n:=n%8) ⟨by omega,by omega⟩ with hm|hm|hm|hm|hm|hm|hm|hm
 · rw[hm] at HB ⊢;clear hm h0 h1
   go_enter Tryz.func51,Tryz.ntmps51
   go_wp2_with fail
   rw[←hX];clear hX;refine HB.out.mono ?_;rintro en w1 ⟨rfl,b1⟩;have q1:=qAb QX.out b1;have B1:=Lib.hid (BX.out.trans (b1.mono BX.out.size));have q3:((w1.alloc (.cells #[.int .i64 2,.int .i64 3,.int .i64 4,.int .i64 1,.int .i64 5,.int .i64 2,.int .i64 4,.int .i64 2] 3)).alloc (.cells #[.int .i64 0,.string ⟨#[]⟩,.int .i64 2,.bool false,.bool false,.int .i64 1,.string ⟨#[]⟩] 59)).heap[w.heap.size]?=some (.cells #[.int .i64 0,.string ⟨#[]⟩,.int .i64 0,.bool false,.bool false,.int .i64 0,.string ⟨#[]⟩] 59 (0,0)):=qAe (qAe q1 _) _
   have f0:=qAa (i:=0) q3;have y0:=cell_of_block (i:=0) q3 rfl;have f1:=qAa (i:=1) q3;have y1:=cell_of_block (i:=1) q3 rfl;have f2:=qAa (i:=2) q3;have y2:=cell_of_block (i:=2) q3 rfl;have f3:=qAa (i:=3) q3;have y3:=cell_of_block (i:=3) q3 rfl;have f4:=qAa (i:=4) q3;have y4:=cell_of_block (i:=4) q3 rfl;have f5:=qAa (i:=5) q3;have y5:=cell_of_block (i:=5) q3 rfl;have f6:=qAa (i:=6) q3;have y6:=cell_of_block (i:=6) q3 rfl;have Q3:=Lib.hid q3
   clear b1 q1 q3
   go_wp2_with fail
   have q9:=qEy Q3.out (.int .i64 0) (.string ⟨#[]⟩) (.int .i64 2) (.bool false) (.bool false) (.int .i64 1) (.string ⟨#[]⟩);have bb:Below w.heap.size w ((w1.alloc (.cells #[.int .i64 2,.int .i64 3,.int .i64 4,.int .i64 1,.int .i64 5,.int .i64 2,.int .i64 4,.int .i64 2] 3)).alloc (.cells #[.int .i64 0,.string ⟨#[]⟩,.int .i64 2,.bool false,.bool false,.int .i64 1,.string ⟨#[]⟩] 59)):=(B1.out.alloc B1.out.size _).alloc (by rw[World.size_alloc];exact Nat.le_succ_of_le B1.out.size) _
   refine bodyPost_ret (results_cell_row (P:=Tryz.prog) rfl _ _ w.heap.size 59 _ (0,0) _ rfl q9 Tryz.underlying59 rfl (by kernel_rfl)) rfl ?_;exact⟨rfl,qC7 bb (Nat.le_refl _) (.int .i64 0) (.string ⟨#[]⟩) (.int .i64 2) (.bool false) (.bool false) (.int .i64 1) (.string ⟨#[]⟩)⟩
 · rw[hm] at HB ⊢;clear hm h0 h1
   go_enter Tryz.func51,Tryz.ntmps51
   go_wp2_with fail
   rw[←hX];clear hX;refine HB.out.mono ?_;rintro en w1 ⟨rfl,b1⟩;have q1:=qAb QX.out b1;have B1:=Lib.hid (BX.out.trans (b1.mono BX.out.size));have q3:((w1.alloc (.cells #[.int .i64 2,.int .i64 3,.int .i64 4,.int .i64 1,.int .i64 5,.int .i64 2,.int .i64 4,.int .i64 2] 3)).alloc (.cells #[.int .i64 0,.string ⟨#[]⟩,.int .i64 3,.bool false,.bool false,.int .i64 1,.string ⟨#[]⟩] 59)).heap[w.heap.size]?=some (.cells #[.int .i64 0,.string ⟨#[]⟩,.int .i64 0,.bool false,.bool false,.int .i64 0,.string ⟨#[]⟩] 59 (0,0)):=qAe (qAe q1 _) _
   have f0:=qAa (i:=0) q3;have y0:=cell_of_block (i:=0) q3 rfl;have f1:=qAa (i:=1) q3;have y1:=cell_of_block (i:=1) q3 rfl;have f2:=qAa (i:=2) q3;have y2:=cell_of_block (i:=2) q3 rfl;have f3:=qAa (i:=3) q3;have y3:=cell_of_block (i:=3) q3 rfl;have f4:=qAa (i:=4) q3;have y4:=cell_of_block (i:=4) q3 rfl;have f5:=qAa (i:=5) q3;have y5:=cell_of_block (i:=5) q3 rfl;have f6:=qAa (i:=6) q3;have y6:=cell_of_block (i:=6) q3 rfl;have Q3:=Lib.hid q3
   clear b1 q1 q3
   go_wp2_with fail
   have q9:=qEy Q3.out (.int .i64 0) (.string ⟨#[]⟩) (.int .i64 3) (.bool false) (.bool false) (.int .i64 1) (.string ⟨#[]⟩);have bb:Below w.heap.size w ((w1.alloc (.cells #[.int .i64 2,.int .i64 3,.int .i64 4,.int .i64 1,.int .i64 5,.int .i64 2,.int .i64 4,.int .i64 2] 3)).alloc (.cells #[.int .i64 0,.string ⟨#[]⟩,.int .i64 3,.bool false,.bool false,.int .i64 1,.string ⟨#[]⟩] 59)):=(B1.out.alloc B1.out.size _).alloc (by rw[World.size_alloc];exact Nat.le_succ_of_le B1.out.size) _
   refine bodyPost_ret (results_cell_row (P:=Tryz.prog) rfl _ _ w.heap.size 59 _ (0,0) _ rfl q9 Tryz.underlying59 rfl (by kernel_rfl)) rfl ?_;exact⟨rfl,qC7 bb (Nat.le_refl _) (.int .i64 0) (.string ⟨#[]⟩) (.int .i64 3) (.bool false) (.bool false) (.int .i64 1) (.string ⟨#[]⟩)⟩
 · rw[hm] at HB ⊢;clear hm h0 h1
   go_enter Tryz.func51,Tryz.ntmps51
   go_wp2_with fail
   rw[←hX];clear hX;refine HB.out.mono ?_;rintro en w1 ⟨rfl,b1⟩;have q1:=qAb QX.out b1;have B1:=Lib.hid (BX.out.trans (b1.mono BX.out.size));have q3:((w1.alloc (.cells #[.int .i64 2,.int .i64 3,.int .i64 4,.int .i64 1,.int .i64 5,.int .i64 2,.int .i64 4,.int .i64 2] 3)).alloc (.cells #[.int .i64 0,.string ⟨#[]⟩,.int .i64 4,.bool false,.bool false,.int .i64 0,.string ⟨#[100]⟩] 59)).heap[w.heap.size]?=some (.cells #[.int .i64 0,.string ⟨#[]⟩,.int .i64 0,.bool false,.bool false,.int .i64 0,.string ⟨#[]⟩] 59 (0,0)):=qAe (qAe q1 _) _
   have f0:=qAa (i:=0) q3;have y0:=cell_of_block (i:=0) q3 rfl;have f1:=qAa (i:=1) q3;have y1:=cell_of_block (i:=1) q3 rfl;have f2:=qAa (i:=2) q3;have y2:=cell_of_block (i:=2) q3 rfl;have f3:=qAa (i:=3) q3;have y3:=cell_of_block (i:=3) q3 rfl;have f4:=qAa (i:=4) q3;have y4:=cell_of_block (i:=4) q3 rfl;have f5:=qAa (i:=5) q3;have y5:=cell_of_block (i:=5) q3 rfl;have f6:=qAa (i:=6) q3;have y6:=cell_of_block (i:=6) q3 rfl;have Q3:=Lib.hid q3
   clear b1 q1 q3
   go_wp2_with fail
   have q9:=qEy Q3.out (.int .i64 0) (.string ⟨#[]⟩) (.int .i64 4) (.bool false) (.bool false) (.int .i64 0) (.string ⟨#[100]⟩);have bb:Below w.heap.size w ((w1.alloc (.cells #[.int .i64 2,.int .i64 3,.int .i64 4,.int .i64 1,.int .i64 5,.int .i64 2,.int .i64 4,.int .i64 2] 3)).alloc (.cells #[.int .i64 0,.string ⟨#[]⟩,.int .i64 4,.bool false,.bool false,.int .i64 0,.string ⟨#[100]⟩] 59)):=(B1.out.alloc B1.out.size _).alloc (by rw[World.size_alloc];exact Nat.le_succ_of_le B1.out.size) _
   refine bodyPost_ret (results_cell_row (P:=Tryz.prog) rfl _ _ w.heap.size 59 _ (0,0) _ rfl q9 Tryz.underlying59 rfl (by kernel_rfl)) rfl ?_;exact⟨rfl,qC7 bb (Nat.le_refl _) (.int .i64 0) (.string ⟨#[]⟩) (.int .i64 4) (.bool false) (.bool false) (.int .i64 0) (.string ⟨#[100]⟩)⟩
 · rw[hm] at HB ⊢;clear hm h0 h1
   go_enter Tryz.func51,Tryz.ntmps51
   go_wp2_with fail
   rw[←hX];clear hX;refine HB.out.mono ?_;rintro en w1 ⟨rfl,b1⟩;have q1:=qAb QX.out b1;have B1:=Lib.hid (BX.out.trans (b1.mono BX.out.size));have q3:((w1.alloc (.cells #[.int .i64 2,.int .i64 3,.int .i64 4,.int .i64 1,.int .i64 5,.int .i64 2,.int .i64 4,.int .i64 2] 3)).alloc (.cells #[.int .i64 0,.string ⟨#[]⟩,.int .i64 1,.bool false,.bool false,.int .i64 1,.string ⟨#[]⟩] 59)).heap[w.heap.size]?=some (.cells #[.int .i64 0,.string ⟨#[]⟩,.int .i64 0,.bool false,.bool false,.int .i64 0,.string ⟨#[]⟩] 59 (0,0)):=qAe (qAe q1 _) _
   have f0:=qAa (i:=0) q3;have y0:=cell_of_block (i:=0) q3 rfl;have f1:=qAa (i:=1) q3;have y1:=cell_of_block (i:=1) q3 rfl;have f2:=qAa (i:=2) q3;have y2:=cell_of_block (i:=2) q3 rfl;have f3:=qAa (i:=3) q3;have y3:=cell_of_block (i:=3) q3 rfl;have f4:=qAa (i:=4) q3;have y4:=cell_of_block (i:=4) q3 rfl;have f5:=qAa (i:=5) q3;have y5:=cell_of_block (i:=5) q3 rfl;have f6:=qAa (i:=6) q3;have y6:=cell_of_block (i:=6) q3 rfl;have Q3:=Lib.hid q3
   clear b1 q1 q3
   go_wp2_with fail
   have q9:=qEy Q3.out (.int .i64 0) (.string ⟨#[]⟩) (.int .i64 1) (.bool false) (.bool false) (.int .i64 1) (.string ⟨#[]⟩);have bb:Below w.heap.size w ((w1.alloc (.cells #[.int .i64 2,.int .i64 3,.int .i64 4,.int .i64 1,.int .i64 5,.int .i64 2,.int .i64 4,.int .i64 2] 3)).alloc (.cells #[.int .i64 0,.string ⟨#[]⟩,.int .i64 1,.bool false,.bool false,.int .i64 1,.string ⟨#[]⟩] 59)):=(B1.out.alloc B1.out.size _).alloc (by rw[World.size_alloc];exact Nat.le_succ_of_le B1.out.size) _
   refine bodyPost_ret (results_cell_row (P:=Tryz.prog) rfl _ _ w.heap.size 59 _ (0,0) _ rfl q9 Tryz.underlying59 rfl (by kernel_rfl)) rfl ?_;exact⟨rfl,qC7 bb (Nat.le_refl _) (.int .i64 0) (.string ⟨#[]⟩) (.int .i64 1) (.bool false) (.bool false) (.int .i64 1) (.string ⟨#[]⟩)⟩
 · rw[hm] at HB ⊢;clear hm h0 h1
   go_enter Tryz.func51,Tryz.ntmps51
   go_wp2_with fail
   rw[←hX];clear hX;refine HB.out.mono ?_;rintro en w1 ⟨rfl,b1⟩;have q1:=qAb QX.out b1;have B1:=Lib.hid (BX.out.trans (b1.mono BX.out.size));have q3:((w1.alloc (.cells #[.int .i64 2,.int .i64 3,.int .i64 4,.int .i64 1,.int .i64 5,.int .i64 2,.int .i64 4,.int .i64 2] 3)).alloc (.cells #[.int .i64 0,.string ⟨#[]⟩,.int .i64 5,.bool false,.bool false,.int .i64 0,.string ⟨#[100]⟩] 59)).heap[w.heap.size]?=some (.cells #[.int .i64 0,.string ⟨#[]⟩,.int .i64 0,.bool false,.bool false,.int .i64 0,.string ⟨#[]⟩] 59 (0,0)):=qAe (qAe q1 _) _
   have f0:=qAa (i:=0) q3;have y0:=cell_of_block (i:=0) q3 rfl;have f1:=qAa (i:=1) q3;have y1:=cell_of_block (i:=1) q3 rfl;have f2:=qAa (i:=2) q3;have y2:=cell_of_block (i:=2) q3 rfl;have f3:=qAa (i:=3) q3;have y3:=cell_of_block (i:=3) q3 rfl;have f4:=qAa (i:=4) q3;have y4:=cell_of_block (i:=4) q3 rfl;have f5:=qAa (i:=5) q3;have y5:=cell_of_block (i:=5) q3 rfl;have f6:=qAa (i:=6) q3;have y6:=cell_of_block (i:=6) q3 rfl;have Q3:=Lib.hid q3
   clear b1 q1 q3
   go_wp2_with fail
   have q9:=qEy Q3.out (.int .i64 0) (.string ⟨#[]⟩) (.int .i64 5) (.bool false) (.bool false) (.int .i64 0) (.string ⟨#[100]⟩);have bb:Below w.heap.size w ((w1.alloc (.cells #[.int .i64 2,.int .i64 3,.int .i64 4,.int .i64 1,.int .i64 5,.int .i64 2,.int .i64 4,.int .i64 2] 3)).alloc (.cells #[.int .i64 0,.string ⟨#[]⟩,.int .i64 5,.bool false,.bool false,.int .i64 0,.string ⟨#[100]⟩] 59)):=(B1.out.alloc B1.out.size _).alloc (by rw[World.size_alloc];exact Nat.le_succ_of_le B1.out.size) _
   refine bodyPost_ret (results_cell_row (P:=Tryz.prog) rfl _ _ w.heap.size 59 _ (0,0) _ rfl q9 Tryz.underlying59 rfl (by kernel_rfl)) rfl ?_;exact⟨rfl,qC7 bb (Nat.le_refl _) (.int .i64 0) (.string ⟨#[]⟩) (.int .i64 5) (.bool false) (.bool false) (.int .i64 0) (.string ⟨#[100]⟩)⟩
 · rw[hm] at HB ⊢;clear hm h0 h1
   go_enter Tryz.func51,Tryz.ntmps51
   go_wp2_with fail
   rw[←hX];clear hX;refine HB.out.mono ?_;rintro en w1 ⟨rfl,b1⟩;have q1:=qAb QX.out b1;have B1:=Lib.hid (BX.out.trans (b1.mono BX.out.size));have q3:((w1.alloc (.cells #[.int .i64 2,.int .i64 3,.int .i64 4,.int .i64 1,.int .i64 5,.int .i64 2,.int .i64 4,.int .i64 2] 3)).alloc (.cells #[.int .i64 0,.string ⟨#[]⟩,.int .i64 2,.bool false,.bool false,.int .i64 1,.string ⟨#[]⟩] 59)).heap[w.heap.size]?=some (.cells #[.int .i64 0,.string ⟨#[]⟩,.int .i64 0,.bool false,.bool false,.int .i64 0,.string ⟨#[]⟩] 59 (0,0)):=qAe (qAe q1 _) _
   have f0:=qAa (i:=0) q3;have y0:=cell_of_block (i:=0) q3 rfl;have f1:=qAa (i:=1) q3;have y1:=cell_of_block (i:=1) q3 rfl;have f2:=qAa (i:=2) q3;have y2:=cell_of_block (i:=2) q3 rfl;have f3:=qAa (i:=3) q3;have y3:=cell_of_block (i:=3) q3 rfl;have f4:=qAa (i:=4) q3;have y4:=cell_of_block (i:=4) q3 rfl;have f5:=qAa (i:=5) q3;have y5:=cell_of_block (i:=5) q3 rfl;have f6:=qAa (i:=6) q3;have y6:=cell_of_block (i:=6) q3 rfl;have Q3:=Lib.hid q3
   clear b1 q1 q3
   go_wp2_with fail
   have q9:=qEy Q3.out (.int .i64 0) (.string ⟨#[]⟩) (.int .i64 2) (.bool false) (.bool false) (.int .i64 1) (.string ⟨#[]⟩);have bb:Below w.heap.size w ((w1.alloc (.cells #[.int .i64 2,.int .i64 3,.int .i64 4,.int .i64 1,.int .i64 5,.int .i64 2,.int .i64 4,.int .i64 2] 3)).alloc (.cells #[.int .i64 0,.string ⟨#[]⟩,.int .i64 2,.bool false,.bool false,.int .i64 1,.string ⟨#[]⟩] 59)):=(B1.out.alloc B1.out.size _).alloc (by rw[World.size_alloc];exact Nat.le_succ_of_le B1.out.size) _
   refine bodyPost_ret (results_cell_row (P:=Tryz.prog) rfl _ _ w.heap.size 59 _ (0,0) _ rfl q9 Tryz.underlying59 rfl (by kernel_rfl)) rfl ?_;exact⟨rfl,qC7 bb (Nat.le_refl _) (.int .i64 0) (.string ⟨#[]⟩) (.int .i64 2) (.bool false) (.bool false) (.int .i64 1) (.string ⟨#[]⟩)⟩
 · rw[hm] at HB ⊢;clear hm h0 h1
   go_enter Tryz.func51,Tryz.ntmps51
   go_wp2_with fail
   rw[←hX];clear hX;refine HB.out.mono ?_;rintro en w1 ⟨rfl,b1⟩;have q1:=qAb QX.out b1;have B1:=Lib.hid (BX.out.trans (b1.mono BX.out.size));have q3:((w1.alloc (.cells #[.int .i64 2,.int .i64 3,.int .i64 4,.int .i64 1,.int .i64 5,.int .i64 2,.int .i64 4,.int .i64 2] 3)).alloc (.cells #[.int .i64 0,.string ⟨#[]⟩,.int .i64 4,.bool true,.bool true,.int .i64 0,.string ⟨#[]⟩] 59)).heap[w.heap.size]?=some (.cells #[.int .i64 0,.string ⟨#[]⟩,.int .i64 0,.bool false,.bool false,.int .i64 0,.string ⟨#[]⟩] 59 (0,0)):=qAe (qAe q1 _) _
   have f0:=qAa (i:=0) q3;have y0:=cell_of_block (i:=0) q3 rfl;have f1:=qAa (i:=1) q3;have y1:=cell_of_block (i:=1) q3 rfl;have f2:=qAa (i:=2) q3;have y2:=cell_of_block (i:=2) q3 rfl;have f3:=qAa (i:=3) q3;have y3:=cell_of_block (i:=3) q3 rfl;have f4:=qAa (i:=4) q3;have y4:=cell_of_block (i:=4) q3 rfl;have f5:=qAa (i:=5) q3;have y5:=cell_of_block (i:=5) q3 rfl;have f6:=qAa (i:=6) q3;have y6:=cell_of_block (i:=6) q3 rfl;have Q3:=Lib.hid q3
   clear b1 q1 q3
   go_wp2_with fail
   have q9:=qEy Q3.out (.int .i64 0) (.string ⟨#[]⟩) (.int .i64 4) (.bool true) (.bool true) (.int .i64 0) (.string ⟨#[]⟩);have bb:Below w.heap.size w ((w1.alloc (.cells #[.int .i64 2,.int .i64 3,.int .i64 4,.int .i64 1,.int .i64 5,.int .i64 2,.int .i64 4,.int .i64 2] 3)).alloc (.cells #[.int .i64 0,.string ⟨#[]⟩,.int .i64 4,.bool true,.bool true,.int .i64 0,.string ⟨#[]⟩] 59)):=(B1.out.alloc B1.out.size _).alloc (by rw[World.size_alloc];exact Nat.le_succ_of_le B1.out.size) _
   refine bodyPost_ret (results_cell_row (P:=Tryz.prog) rfl _ _ w.heap.size 59 _ (0,0) _ rfl q9 Tryz.underlying59 rfl (by kernel_rfl)) rfl ?_;exact⟨rfl,qC7 bb (Nat.le_refl _) (.int .i64 0) (.string ⟨#[]⟩) (.int .i64 4) (.bool true) (.bool true) (.int .i64 0) (.string ⟨#[]⟩)⟩
 · rw[hm] at HB ⊢;clear hm h0 h1
   go_enter Tryz.func51,Tryz.ntmps51
   go_wp2_with fail
   rw[←hX];clear hX;refine HB.out.mono ?_;rintro en w1 ⟨rfl,b1⟩;have q1:=qAb QX.out b1;have B1:=Lib.hid (BX.out.trans (b1.mono BX.out.size));have q3:((w1.alloc (.cells #[.int .i64 2,.int .i64 3,.int .i64 4,.int .i64 1,.int .i64 5,.int .i64 2,.int .i64 4,.int .i64 2] 3)).alloc (.cells #[.int .i64 0,.string ⟨#[]⟩,.int .i64 2,.bool true,.bool true,.int .i64 0,.string ⟨#[]⟩] 59)).heap[w.heap.size]?=some (.cells #[.int .i64 0,.string ⟨#[]⟩,.int .i64 0,.bool false,.bool false,.int .i64 0,.string ⟨#[]⟩] 59 (0,0)):=qAe (qAe q1 _) _
   have f0:=qAa (i:=0) q3;have y0:=cell_of_block (i:=0) q3 rfl;have f1:=qAa (i:=1) q3;have y1:=cell_of_block (i:=1) q3 rfl;have f2:=qAa (i:=2) q3;have y2:=cell_of_block (i:=2) q3 rfl;have f3:=qAa (i:=3) q3;have y3:=cell_of_block (i:=3) q3 rfl;have f4:=qAa (i:=4) q3;have y4:=cell_of_block (i:=4) q3 rfl;have f5:=qAa (i:=5) q3;have y5:=cell_of_block (i:=5) q3 rfl;have f6:=qAa (i:=6) q3;have y6:=cell_of_block (i:=6) q3 rfl;have Q3:=Lib.hid q3
   clear b1 q1 q3
   go_wp2_with fail
   have q9:=qEy Q3.out (.int .i64 0) (.string ⟨#[]⟩) (.int .i64 2) (.bool true) (.bool true) (.int .i64 0) (.string ⟨#[]⟩);have bb:Below w.heap.size w ((w1.alloc (.cells #[.int .i64 2,.int .i64 3,.int .i64 4,.int .i64 1,.int .i64 5,.int .i64 2,.int .i64 4,.int .i64 2] 3)).alloc (.cells #[.int .i64 0,.string ⟨#[]⟩,.int .i64 2,.bool true,.bool true,.int .i64 0,.string ⟨#[]⟩] 59)):=(B1.out.alloc B1.out.size _).alloc (by rw[World.size_alloc];exact Nat.le_succ_of_le B1.out.size) _
   refine bodyPost_ret (results_cell_row (P:=Tryz.prog) rfl _ _ w.heap.size 59 _ (0,0) _ rfl q9 Tryz.underlying59 rfl (by kernel_rfl)) rfl ?_;exact⟨rfl,qC7 bb (Nat.le_refl _) (.int .i64 0) (.string ⟨#[]⟩) (.int .i64 2) (.bool true) (.bool true) (.int .i64 0) (.string ⟨#[]⟩)⟩
end Go.Proofs.YtikpmmipopmjaaaGreatDoor
