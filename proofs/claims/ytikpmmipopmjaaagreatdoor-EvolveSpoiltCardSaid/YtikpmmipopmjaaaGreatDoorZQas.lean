/- A number brought to be from 0 to below another one. Evolve's laws: a cell of a number. Evolve's laws: a row of numbers. -/
import Derived.Test.YtikpmmipopmjaaaGreatDoorZQn
import Derived.Test.YtikpmmipopmjaaaGreatDoorZQaj
set_option linter.unusedVariables false
set_option linter.unusedSimpArgs false
namespace Go.Proofs.YtikpmmipopmjaaaGreatDoor
open Go.RowKit Go.Ms Go.Lib
theorem qB0 (i n:Int) (h0: -9223372036854775808≤i) (h1:i≤9223372036854775807) (hn:0<n) (hn2:n≤4611686018427387904) (w:World) :
    Calls Tryz.prog 28 #[.int .i64 i,.int .i64 n] w fun e w'=>e=.returned (.int .i64 (i%n))∧Below w.heap.size w w':=by
 have hz:(n==0)=false:=by simp;omega
 have hz2:¬n=0:=by omega
 have hb1:i.tmod n<n:=Int.tmod_lt_of_pos _ hn
 have hb2: -n<i.tmod n:=by
  exact Int.lt_tmod_of_pos i hn
 have hw:IntKind.i64.wrap (i.tmod n)=i.tmod n:=IntWalk.i64_in _ ⟨by omega,by omega⟩
 by_cases hneg:i.tmod n<0
 · have he:i%n=i.tmod n+n:=by
     have h:=Int.tmod_eq_emod (a:=i) (b:=n)
     split at h
     · have:=Int.emod_nonneg i (b:=n) (by omega);omega
     · omega
   have hw2:IntKind.i64.wrap (i.tmod n+n)=i.tmod n+n:=IntWalk.i64_in _ ⟨by omega,by omega⟩;rw[he];clear he
   go_enter Tryz.func28,Tryz.ntmps28
   go_wp2_with fail
   go_ret
   exact⟨rfl,Below.refl _ _⟩
 · have he:i%n=i.tmod n:=by
     have h:=Int.tmod_eq_emod (a:=i) (b:=n)
     split at h
     · omega
     · have:=Int.emod_lt_of_pos i hn;omega
   rw[he];clear he
   go_enter Tryz.func28,Tryz.ntmps28
   go_wp2_with fail
   go_ret
   exact⟨rfl,Below.refl _ _⟩
end Go.Proofs.YtikpmmipopmjaaaGreatDoor
set_option linter.unusedSimpArgs false
namespace Go.Ms
open Go.RowKit Go.Lib
theorem qG3 {w:World} {b:Nat} {x0 x1 x2:Value} {T:TypeId} (h:w.heap[b]?=some (.cells #[x0,x1,x2] T (0,0))) (p0 p1 p2:Value) :
    (((w.setCell ⟨b,0,none⟩ p0).setCell ⟨b,1,none⟩ p1).setCell ⟨b,2,none⟩ p2).heap[b]?=some (.cells #[p0,p1,p2] T (0,0)):=by
 simp[World.setCell,Array.getElem?_modify,h]
theorem qEi {B:Nat} {w0 w:World} {b:Nat} (h:Below B w0 w) (hb:B≤b) (p0 p1 p2:Value) :
    Below B w0 (((w.setCell ⟨b,0,none⟩ p0).setCell ⟨b,1,none⟩ p1).setCell ⟨b,2,none⟩ p2):=
  ((h.setCell (p:=⟨b,0,none⟩) hb _).setCell (p:=⟨b,1,none⟩) hb _).setCell (p:=⟨b,2,none⟩) hb _
theorem qU6 (n:Int):(ByteArray.mk #[97,98,99,100,101,102,103,104]).extract 0 (n%9).toNat=⟨(#[97,98,99,100,101,102,103,104]:Array UInt8).extract 0 (n%9).toNat⟩:=by
 rcases qQd (n:=n%9) ⟨by omega,by omega⟩ with e|e|e|e|e|e|e|e|e <;> rw[e] <;> decide +kernel
end Go.Ms
namespace Go.Proofs.YtikpmmipopmjaaaGreatDoor
open Go.RowKit Go.Ms Go.Lib Go.Shelf Go.Rel
set_option maxRecDepth 100000 in
set_option maxHeartbeats 4000000 in
theorem qSk (c:Co) (n:Int) (h0: -9223372036854775808≤n) (h1:n≤9223372036854775807) (w:World):Calls Tryz.prog 52 #[coA c,.int .i64 n] w fun e w'=>e=.returned (clA (qBy c.2.2.1 n))∧Below w.heap.size w w':=by
 obtain⟨i0,s0,⟨k0,u0⟩,n0,m0,t0⟩:=c
 show Calls Tryz.prog 52 #[.agg #[.int .i64 i0,.string s0,.int .i64 k0,.bool u0,.bool n0,.int .i64 m0,.string t0],.int .i64 n] w fun e w'=>e=.returned (clA (qBy (k0,u0) n))∧Below w.heap.size w w'
 obtain⟨X,hX⟩:∃X,X=(w.alloc (.cells #[.int .i64 i0,.string s0,.int .i64 k0,.bool u0,.bool n0,.int .i64 m0,.string t0] 59)).alloc (.cells #[.bool false,.int .i64 0,.string ⟨#[]⟩] 57):=⟨_,rfl⟩
 have bX:Below w.heap.size w X:=by rw[hX];exact((Below.refl _ w).alloc (Nat.le_refl _) _).alloc (by rw[World.size_alloc];omega) _
 have q0:X.heap[w.heap.size]?=some (.cells #[.int .i64 i0,.string s0,.int .i64 k0,.bool u0,.bool n0,.int .i64 m0,.string t0] 59 (0,0)):=by rw[hX];exact qAe (qAf _ _) _
 have q1:X.heap[w.heap.size+1]?=some (.cells #[.bool false,.int .i64 0,.string ⟨#[]⟩] 57 (0,0)):=by rw[hX];exact heap_alloc2_new w _ _
 have e2:n.tmod 3=0∨¬n.tmod 3=0:=by omega
 have c2:=cell_of_block (i:=2) q0 rfl;have c3:=cell_of_block (i:=3) q0 rfl;have y0:=cell_of_block (i:=0) q1 rfl;have y1:=cell_of_block (i:=1) q1 rfl;have y2:=cell_of_block (i:=2) q1 rfl;have f0:=qAa (i:=0) q1;have f1:=qAa (i:=1) q1;have f2:=qAa (i:=2) q1
 have BX:=Lib.hid bX;have Q0:=Lib.hid q0;have Q1:=Lib.hid q1
 clear bX q0 q1;rw[hX] at c2 c3 y0 y1 y2 f0 f1 f2
 cases u0 with
 |true=>
  rcases e2 with e2|e2
  · have e3:(n.tmod 3==0)=true:=by simpa using e2
    rw[show qBy (k0,true) n=(true,0,⟨#[]⟩) by unfold qBy;rw[if_pos ⟨rfl,e2⟩]]
    go_enter Tryz.func52,Tryz.ntmps52
    go_wp2_with fail
    have q9:=heap_alloc2_new w (.cells #[.int .i64 i0,.string s0,.int .i64 k0,.bool true,.bool n0,.int .i64 m0,.string t0] 59) (.cells #[.bool true,.int .i64 0,.string ⟨#[]⟩] 57);have bb:Below w.heap.size w ((w.alloc (.cells #[.int .i64 i0,.string s0,.int .i64 k0,.bool true,.bool n0,.int .i64 m0,.string t0] 59)).alloc (.cells #[.bool true,.int .i64 0,.string ⟨#[]⟩] 57)):=((Below.refl _ w).alloc (Nat.le_refl _) _).alloc (by rw[World.size_alloc];omega) _
    refine bodyPost_ret (results_cell_row (P:=Tryz.prog) rfl _ _ (w.heap.size+1) 57 _ (0,0) _ rfl q9 Tryz.underlying57 rfl (by kernel_rfl)) rfl ?_;exact⟨rfl,bb⟩
  · have e3:(n.tmod 3==0)=false:=by simpa using e2
    have hne:¬((true:Bool)=true∧n.tmod 3=0):=fun h=>e2 h.2
    by_cases a1:k0=1
    · subst a1;rw[show qBy (1,true) n=(false,n%2,⟨#[]⟩) by unfold qBy;rw[if_neg hne];rfl];clear hne
      go_enter Tryz.func52,Tryz.ntmps52
      go_wp2_with fail
      rw[←hX];clear hX c2 c3 y0 y1 y2 f0 f1 f2;refine(qB0 n 2 h0 h1 (by omega) (by omega) X).mono ?_;rintro en w1 ⟨rfl,b1⟩;have q1:=qAb Q1.out b1;have B1:=Lib.hid (BX.out.trans (b1.mono BX.out.size));have y0:=cell_of_block (i:=0) q1 rfl;have y1:=cell_of_block (i:=1) q1 rfl;have y2:=cell_of_block (i:=2) q1 rfl;have f0:=qAa (i:=0) q1;have f1:=qAa (i:=1) q1;have f2:=qAa (i:=2) q1;have Q2:=Lib.hid q1;clear b1 q1
      go_wp2_with fail
      have q9:=qG3 Q2.out (.bool false) (.int .i64 (n%2)) (.string ⟨#[]⟩);have bb:=qEi B1.out (b:=w.heap.size+1) (Nat.le_succ _) (.bool false) (.int .i64 (n%2)) (.string ⟨#[]⟩);refine bodyPost_ret (results_cell_row (P:=Tryz.prog) rfl _ _ (w.heap.size+1) 57 _ (0,0) _ rfl q9 Tryz.underlying57 rfl (by kernel_rfl)) rfl ?_;exact⟨rfl,bb⟩
    by_cases a2:k0=2
    · subst a2;rw[show qBy (2,true) n=(false,n%4294967296-2147483648,⟨#[]⟩) by unfold qBy;rw[if_neg hne];rfl];clear hne a1;have hw:IntKind.i64.wrap (n%4294967296-2147483648)=n%4294967296-2147483648:=IntWalk.i64_in _ (by omega)
      go_enter Tryz.func52,Tryz.ntmps52
      go_wp2_with fail
      rw[←hX];clear hX c2 c3 y0 y1 y2 f0 f1 f2;refine(qB0 n 4294967296 h0 h1 (by omega) (by omega) X).mono ?_;rintro en w1 ⟨rfl,b1⟩;have q1:=qAb Q1.out b1;have B1:=Lib.hid (BX.out.trans (b1.mono BX.out.size));have y0:=cell_of_block (i:=0) q1 rfl;have y1:=cell_of_block (i:=1) q1 rfl;have y2:=cell_of_block (i:=2) q1 rfl;have f0:=qAa (i:=0) q1;have f1:=qAa (i:=1) q1;have f2:=qAa (i:=2) q1;have Q2:=Lib.hid q1;clear b1 q1
      go_wp2_with fail
      have q9:=qG3 Q2.out (.bool false) (.int .i64 (n%4294967296-2147483648)) (.string ⟨#[]⟩);have bb:=qEi B1.out (b:=w.heap.size+1) (Nat.le_succ _) (.bool false) (.int .i64 (n%4294967296-2147483648)) (.string ⟨#[]⟩);refine bodyPost_ret (results_cell_row (P:=Tryz.prog) rfl _ _ (w.heap.size+1) 57 _ (0,0) _ rfl q9 Tryz.underlying57 rfl (by kernel_rfl)) rfl ?_;exact⟨rfl,bb⟩
    by_cases a3:k0=3
    · subst a3;rw[show qBy (3,true) n=(false,n,⟨#[]⟩) by unfold qBy;rw[if_neg hne];rfl];clear hne a1 a2
      go_enter Tryz.func52,Tryz.ntmps52
      go_wp2_with fail
      have q9:=heap_alloc2_new w (.cells #[.int .i64 i0,.string s0,.int .i64 3,.bool true,.bool n0,.int .i64 m0,.string t0] 59) (.cells #[.bool false,.int .i64 n,.string ⟨#[]⟩] 57);have bb:Below w.heap.size w ((w.alloc (.cells #[.int .i64 i0,.string s0,.int .i64 3,.bool true,.bool n0,.int .i64 m0,.string t0] 59)).alloc (.cells #[.bool false,.int .i64 n,.string ⟨#[]⟩] 57)):=((Below.refl _ w).alloc (Nat.le_refl _) _).alloc (by rw[World.size_alloc];omega) _
      refine bodyPost_ret (results_cell_row (P:=Tryz.prog) rfl _ _ (w.heap.size+1) 57 _ (0,0) _ rfl q9 Tryz.underlying57 rfl (by kernel_rfl)) rfl ?_;exact⟨rfl,bb⟩
    rw[show qBy (k0,true) n=(false,0,(ByteArray.mk #[97,98,99,100,101,102,103,104]).extract 0 (n%9).toNat) by unfold qBy;rw[if_neg hne,qU6 n];exact(if_neg a1).trans ((if_neg a2).trans (if_neg a3))]
    have b1:(k0==1)=false:=by simpa using a1
    have b2:(k0==2)=false:=by simpa using a2
    have b3:(k0==3)=false:=by simpa using a3
    have g1:(0:Int)≤n%9:=by omega
    have g2:n%9≤8:=by omega
    have g3:(n%9).toNat≤8:=by omega
    clear hne a1 a2 a3
    go_enter Tryz.func52,Tryz.ntmps52
    go_wp2_with fail
    rw[←hX];clear hX c2 c3 y0 y1 y2 f0 f1 f2;refine(qB0 n 9 h0 h1 (by omega) (by omega) X).mono ?_;rintro en w1 ⟨rfl,b1⟩;have q1:=qAb Q1.out b1;have B1:=Lib.hid (BX.out.trans (b1.mono BX.out.size));have y0:=cell_of_block (i:=0) q1 rfl;have y1:=cell_of_block (i:=1) q1 rfl;have y2:=cell_of_block (i:=2) q1 rfl;have f0:=qAa (i:=0) q1;have f1:=qAa (i:=1) q1;have f2:=qAa (i:=2) q1;have Q2:=Lib.hid q1;clear b1 q1
    go_wp2_with fail
    have q9:=qG3 Q2.out (.bool false) (.int .i64 0) (.string (ByteArray.extract ⟨#[97,98,99,100,101,102,103,104]⟩ 0 (n%9).toNat));have bb:=qEi B1.out (b:=w.heap.size+1) (Nat.le_succ _) (.bool false) (.int .i64 0) (.string (ByteArray.extract ⟨#[97,98,99,100,101,102,103,104]⟩ 0 (n%9).toNat));refine bodyPost_ret (results_cell_row (P:=Tryz.prog) rfl _ _ (w.heap.size+1) 57 _ (0,0) _ rfl q9 Tryz.underlying57 rfl (by kernel_rfl)) rfl ?_;exact⟨rfl,bb⟩
 |false=>
  have hne:¬((false:Bool)=true∧n.tmod 3=0):=fun h=>by cases h.1
  by_cases a1:k0=1
  · subst a1;rw[show qBy (1,false) n=(false,n%2,⟨#[]⟩) by unfold qBy;rw[if_neg hne];rfl];clear hne
    go_enter Tryz.func52,Tryz.ntmps52
    go_wp2_with fail
    rw[←hX];clear hX c2 c3 y0 y1 y2 f0 f1 f2;refine(qB0 n 2 h0 h1 (by omega) (by omega) X).mono ?_;rintro en w1 ⟨rfl,b1⟩;have q1:=qAb Q1.out b1;have B1:=Lib.hid (BX.out.trans (b1.mono BX.out.size));have y0:=cell_of_block (i:=0) q1 rfl;have y1:=cell_of_block (i:=1) q1 rfl;have y2:=cell_of_block (i:=2) q1 rfl;have f0:=qAa (i:=0) q1;have f1:=qAa (i:=1) q1;have f2:=qAa (i:=2) q1;have Q2:=Lib.hid q1;clear b1 q1
    go_wp2_with fail
    have q9:=qG3 Q2.out (.bool false) (.int .i64 (n%2)) (.string ⟨#[]⟩);have bb:=qEi B1.out (b:=w.heap.size+1) (Nat.le_succ _) (.bool false) (.int .i64 (n%2)) (.string ⟨#[]⟩);refine bodyPost_ret (results_cell_row (P:=Tryz.prog) rfl _ _ (w.heap.size+1) 57 _ (0,0) _ rfl q9 Tryz.underlying57 rfl (by kernel_rfl)) rfl ?_;exact⟨rfl,bb⟩
  by_cases a2:k0=2
  · subst a2;rw[show qBy (2,false) n=(false,n%4294967296-2147483648,⟨#[]⟩) by unfold qBy;rw[if_neg hne];rfl];clear hne a1;have hw:IntKind.i64.wrap (n%4294967296-2147483648)=n%4294967296-2147483648:=IntWalk.i64_in _ (by omega)
    go_enter Tryz.func52,Tryz.ntmps52
    go_wp2_with fail
    rw[←hX];clear hX c2 c3 y0 y1 y2 f0 f1 f2;refine(qB0 n 4294967296 h0 h1 (by omega) (by omega) X).mono ?_;rintro en w1 ⟨rfl,b1⟩;have q1:=qAb Q1.out b1;have B1:=Lib.hid (BX.out.trans (b1.mono BX.out.size));have y0:=cell_of_block (i:=0) q1 rfl;have y1:=cell_of_block (i:=1) q1 rfl;have y2:=cell_of_block (i:=2) q1 rfl;have f0:=qAa (i:=0) q1;have f1:=qAa (i:=1) q1;have f2:=qAa (i:=2) q1;have Q2:=Lib.hid q1;clear b1 q1
    go_wp2_with fail
    have q9:=qG3 Q2.out (.bool false) (.int .i64 (n%4294967296-2147483648)) (.string ⟨#[]⟩);have bb:=qEi B1.out (b:=w.heap.size+1) (Nat.le_succ _) (.bool false) (.int .i64 (n%4294967296-2147483648)) (.string ⟨#[]⟩);refine bodyPost_ret (results_cell_row (P:=Tryz.prog) rfl _ _ (w.heap.size+1) 57 _ (0,0) _ rfl q9 Tryz.underlying57 rfl (by kernel_rfl)) rfl ?_;exact⟨rfl,bb⟩
  by_cases a3:k0=3
  · subst a3;rw[show qBy (3,false) n=(false,n,⟨#[]⟩) by unfold qBy;rw[if_neg hne];rfl];clear hne a1 a2
    go_enter Tryz.func52,Tryz.ntmps52
    go_wp2_with fail
    have q9:=heap_alloc2_new w (.cells #[.int .i64 i0,.string s0,.int .i64 3,.bool false,.bool n0,.int .i64 m0,.string t0] 59) (.cells #[.bool false,.int .i64 n,.string ⟨#[]⟩] 57);have bb:Below w.heap.size w ((w.alloc (.cells #[.int .i64 i0,.string s0,.int .i64 3,.bool false,.bool n0,.int .i64 m0,.string t0] 59)).alloc (.cells #[.bool false,.int .i64 n,.string ⟨#[]⟩] 57)):=((Below.refl _ w).alloc (Nat.le_refl _) _).alloc (by rw[World.size_alloc];omega) _
    refine bodyPost_ret (results_cell_row (P:=Tryz.prog) rfl _ _ (w.heap.size+1) 57 _ (0,0) _ rfl q9 Tryz.underlying57 rfl (by kernel_rfl)) rfl ?_;exact⟨rfl,bb⟩
  rw[show qBy (k0,false) n=(false,0,(ByteArray.mk #[97,98,99,100,101,102,103,104]).extract 0 (n%9).toNat) by unfold qBy;rw[if_neg hne,qU6 n];exact(if_neg a1).trans ((if_neg a2).trans (if_neg a3))]
  have b1:(k0==1)=false:=by simpa using a1
  have b2:(k0==2)=false:=by simpa using a2
  have b3:(k0==3)=false:=by simpa using a3
  have g1:(0:Int)≤n%9:=by omega
  have g2:n%9≤8:=by omega
  have g3:(n%9).toNat≤8:=by omega
  clear hne a1 a2 a3
  go_enter Tryz.func52,Tryz.ntmps52
  go_wp2_with fail
  rw[←hX];clear hX c2 c3 y0 y1 y2 f0 f1 f2;refine(qB0 n 9 h0 h1 (by omega) (by omega) X).mono ?_;rintro en w1 ⟨rfl,b1⟩;have q1:=qAb Q1.out b1;have B1:=Lib.hid (BX.out.trans (b1.mono BX.out.size));have y0:=cell_of_block (i:=0) q1 rfl;have y1:=cell_of_block (i:=1) q1 rfl;have y2:=cell_of_block (i:=2) q1 rfl;have f0:=qAa (i:=0) q1;have f1:=qAa (i:=1) q1;have f2:=qAa (i:=2) q1;have Q2:=Lib.hid q1;clear b1 q1
  go_wp2_with fail
  have q9:=qG3 Q2.out (.bool false) (.int .i64 0) (.string (ByteArray.extract ⟨#[97,98,99,100,101,102,103,104]⟩ 0 (n%9).toNat));have bb:=qEi B1.out (b:=w.heap.size+1) (Nat.le_succ _) (.bool false) (.int .i64 0) (.string (ByteArray.extract ⟨#[97,98,99,100,101,102,103,104]⟩ 0 (n%9).toNat));refine bodyPost_ret (results_cell_row (P:=Tryz.prog) rfl _ _ (w.heap.size+1) 57 _ (0,0) _ rfl q9 Tryz.underlying57 rfl (by kernel_rfl)) rfl ?_;exact⟨rfl,bb⟩
end Go.Proofs.YtikpmmipopmjaaaGreatDoor
set_option linter.unusedSimpArgs false
namespace Go.Ms
open Go.RowKit Go.Lib
theorem qI3 (n:List Int) (c:Co):∀(cs:List Co) (i:Nat),qCi n i (cs++[c])=qCi n i cs++[qBy c.2.2.1 (qF5 n (i+cs.length))]
  |[],i=>rfl
  |d::r,i=>by
   show qBy d.2.2.1 (qF5 n i)::qCi n (i+1) (r++[c])=_
   rw[qI3 n c r (i+1),List.length_cons,show i+1+r.length=i+(r.length+1) by omega];rfl
theorem qRh {n:List Int} (hn:∀x∈n, -9223372036854775808≤x∧x≤9223372036854775807) {i:Nat} (hi:i≤9223372036854775807): -9223372036854775808≤qF5 n i∧qF5 n i≤9223372036854775807:=by
 unfold qF5
 split
 · omega
 · rename_i hne
   have hl:0<n.length:=List.length_pos_iff.2 hne;have hm:=Nat.mod_lt i hl;rw[List.getD_eq_getElem?_getD,List.getElem?_eq_getElem hm];exact hn _ (List.getElem_mem hm)
end Go.Ms
namespace Go.Proofs.YtikpmmipopmjaaaGreatDoor
open Go.RowKit Go.Ms Go.Lib Go.Shelf Go.Rel
set_option maxRecDepth 100000 in
set_option maxHeartbeats 4000000 in
theorem qV5 (w:World) (A B:Option Addr) (n cap m capm:Nat) (cs:List Co) (ns:List Int) (hn:n=cs.length) (hm:m=ns.length) (hn':n≤100000) (hm':m≤maxLen) (hA:Lay w w.heap.size A (colV cs)) (hB:Lay w w.heap.size B (intV ns)) (hI:∀x∈ns, -9223372036854775808≤x∧x≤9223372036854775807) :
    Calls Tryz.prog 29 #[.slice A n cap,.slice B m capm] w fun e w'=> ∃v,e=.returned v∧OwnC w' w.heap.size 57 v (qLg cs ns)∧Below w.heap.size w w':=by
 unfold maxLen at hm';obtain⟨ic,ci,cz0,cz1,cz2⟩:=info_parts qFj
 have HN:=Lib.hid hn;have HM:=Lib.hid hm;have HA:=Lib.hid hA;have HB:=Lib.hid hB;have HI:=Lib.hid hI
 clear hn hm hA hB hI
 go_enter Tryz.func29,Tryz.ntmps29
 go_wp2_with fail
 go_loopw [5,6] (fun v i wr=> ∃k:Nat,i=.int .i64 k∧k≤n∧wr.ownsRow w.heap.size 57 3 v k (rowV (qCi ns 0 (cs.take k)))∧Below w.heap.size w wr) (fun _ i _=>n-(RowKit.intOf i).toNat)
 case atStart=>exact⟨0,rfl,by omega,World.ownsRow_nil _ _ _ _,Below.refl _ _⟩
 case round=>
  obtain⟨k,rfl,hk,hown,hb⟩:=hrel;obtain⟨A3,c3,rfl,hc3,hcm3⟩:=qAg hown
  by_cases hlk:k<n
  · have hki:(k:Int)<n:=by omega
    obtain⟨c,hc⟩:∃c,cs[k]?=some c:=⟨_,List.getElem?_eq_getElem (by rw[←HN.out];exact hlk)⟩
    have htk:cs.take (k+1)=cs.take k++[c]:=by rw[List.take_add_one,hc];rfl
    have hlen:(cs.take k).length=k:=by rw[List.length_take];have:=HN.out;omega
    have hsn:qCi ns 0 (cs.take (k+1))=qCi ns 0 (cs.take k)++[qBy c.2.2.1 (qF5 ns k)]:=by rw[htk,qI3,hlen,Nat.zero_add]
    obtain⟨g,o,rfl,hg,j1,j2,j3,j4,j5,j6,j7⟩:=HA.out.co hc;replace j1:=(hb.cell hg).trans j1;replace j2:=(hb.cell hg).trans j2;replace j3:=(hb.cell hg).trans j3;replace j4:=(hb.cell hg).trans j4;replace j5:=(hb.cell hg).trans j5;replace j6:=(hb.cell hg).trans j6;replace j7:=(hb.cell hg).trans j7;obtain⟨n0,n1⟩:=qRh HI.out (i:=k) (by omega)
    have hco:=fun W=>qSk c (qF5 ns k) n0 n1 W
    obtain⟨x,hx⟩:∃x,qBy c.2.2.1 (qF5 ns k)=x:=⟨_,rfl⟩;rw[hx] at hsn hco;obtain⟨i0,s0,⟨k0,u0⟩,nn0,m0,t0⟩:=c;obtain⟨x0,x1,x2⟩:=x;simp only[coA,clA] at hco j1 j2 j3 j4 j5 j6 j7
    have hone:∀u∈clV (x0,x1,x2),u.oneCell'=true:=fun u hu=>qFt [(x0,x1,x2)] u (by simpa[rowV] using hu)
    have OW:=Lib.hid hown;have HBW:=Lib.hid hb;have HSN:=Lib.hid hsn;have HONE:=Lib.hid hone
    clear hown hb hsn hone hx hc htk hlen hg hc3 hcm3
    by_cases hm0:m=0
    · have hnth:qF5 ns k=k:=by unfold qF5;rw[if_pos (List.eq_nil_of_length_eq_zero (by rw[←HM.out];exact hm0))]
      rw[hnth] at hco;have HCO:=Lib.hid hco
      have hmi:¬(0:Int)<m:=by omega
      clear hco hnth n0 n1 hm0
      go_wp2_with (first
        |(go_at_call 52;refine(HCO.out wr).mono ?_;rintro e w5 ⟨rfl,b5⟩;have O5:=Lib.hid (own_below (own_below OW.out b5) ((Below.refl w5.heap.size w5).alloc (Nat.le_refl _) (.cells #[.bool x0,.int .i64 x1,.string x2] 57)));have HNW:=Lib.hid (qBo w5 (clV (x0,x1,x2)) 57);have hz5:=Nat.le_trans HBW.out.size b5.size;have hz6:w.heap.size≤(w5.alloc (.cells #[.bool x0,.int .i64 x1,.string x2] 57)).heap.size:=(by rw[World.size_alloc];omega);have B5:=Lib.hid ((HBW.out.trans (b5.mono HBW.out.size)).alloc hz5 (.cells #[.bool x0,.int .i64 x1,.string x2] 57));clear b5)
        |(at_builtin;refine qAk rfl (.tmp 25) (.tmp 32) _ rfl w.heap.size 57 ic _ 3 32 qB7 ci cz0 cz1 cz2 rfl (by omega) _ _ _ rfl O5.out _ (some ⟨w5.heap.size,0,none⟩) 1 1 (clV (x0,x1,x2)) rfl rfl HNW.out HONE.out (by unfold maxLen;omega) (by omega) hz6 ?_;intro v7 w7 hown7 hg7;have HO7:=Lib.hid hown7;have HB7:=Lib.hid (qBr O5.out B5.out hz6 (Nat.le_refl _) hg7);clear hown7 hg7))
      go_roundw
      case rel=>
       refine⟨k+1,by go_num,by omega,?_,HB7.out⟩;rw[HSN.out,qGt,show rowV [(x0,x1,x2)]=clV (x0,x1,x2) by simp[rowV]];exact HO7.out
      case measure=>simp[RowKit.intOf];omega
    · have hkm:k%m<m:=Nat.mod_lt _ (by omega);obtain⟨q,hq⟩:∃q,ns[k%m]?=some q:=⟨_,List.getElem?_eq_getElem (by rw[←HM.out];exact hkm)⟩
      have hnth:qF5 ns k=q:=by
       unfold qF5;rw[if_neg (fun e=>hm0 (by rw[HM.out,e];rfl)),←HM.out,List.getD_eq_getElem?_getD,hq];rfl
      obtain⟨g',o',rfl,hg',h1⟩:=HB.out.num hq;have g1:=(HBW.out.cell hg').trans h1;rw[hnth] at hco;have HCO:=Lib.hid hco
      have hmi:(0:Int)<m:=by omega
      have hmz:((m:Int)==0)=false:=by simp;omega
      have hmz2:¬(m:Int)=0:=by omega
      have hmd:(k:Int).tmod m=((k%m:Nat):Int):=by rw[Int.tmod_eq_emod_of_nonneg (by omega)];rfl
      have hkl:((k%m:Nat):Int)<m:=by omega
      generalize k%m=z at hmd hkl hkm g1
      clear hco hnth n0 n1 hq hg' h1 hm0
      go_wp2_with (first
        |(go_at_call 52;refine(HCO.out wr).mono ?_;rintro e w5 ⟨rfl,b5⟩;have O5:=Lib.hid (own_below (own_below OW.out b5) ((Below.refl w5.heap.size w5).alloc (Nat.le_refl _) (.cells #[.bool x0,.int .i64 x1,.string x2] 57)));have HNW:=Lib.hid (qBo w5 (clV (x0,x1,x2)) 57);have hz5:=Nat.le_trans HBW.out.size b5.size;have hz6:w.heap.size≤(w5.alloc (.cells #[.bool x0,.int .i64 x1,.string x2] 57)).heap.size:=(by rw[World.size_alloc];omega);have B5:=Lib.hid ((HBW.out.trans (b5.mono HBW.out.size)).alloc hz5 (.cells #[.bool x0,.int .i64 x1,.string x2] 57));clear b5)
        |(at_builtin;refine qAk rfl (.tmp 25) (.tmp 32) _ rfl w.heap.size 57 ic _ 3 32 qB7 ci cz0 cz1 cz2 rfl (by omega) _ _ _ rfl O5.out _ (some ⟨w5.heap.size,0,none⟩) 1 1 (clV (x0,x1,x2)) rfl rfl HNW.out HONE.out (by unfold maxLen;omega) (by omega) hz6 ?_;intro v7 w7 hown7 hg7;have HO7:=Lib.hid hown7;have HB7:=Lib.hid (qBr O5.out B5.out hz6 (Nat.le_refl _) hg7);clear hown7 hg7))
      go_roundw
      case rel=>
       refine⟨k+1,by go_num,by omega,?_,HB7.out⟩;rw[HSN.out,qGt,show rowV [(x0,x1,x2)]=clV (x0,x1,x2) by simp[rowV]];exact HO7.out
      case measure=>simp[RowKit.intOf];omega
  · have hki:¬(k:Int)<n:=by omega
    obtain rfl:k=n:=by omega
    have hall:cs.take k=cs:=List.take_of_length_le (by have:=HN.out;omega)
    have hl:(qLg cs ns).length=k:=by unfold qLg;rw[qFo];exact HN.out.symm
    rw[hall] at hown
    have hfin:OwnC wr w.heap.size 57 (.slice A3 k c3) (qLg cs ns):=by unfold OwnC;rw[hl];exact hown
    have HF:=Lib.hid hfin;have HBW:=Lib.hid hb
    clear hall hl hfin hown hb
    go_wp2_with fail
    go_ret
    exact⟨_,rfl,HF.out,HBW.out⟩
end Go.Proofs.YtikpmmipopmjaaaGreatDoor
