/- Registry's laws: numbers of 32 bits among the arguments, read as such. -/
import Derived.Test.YtainiaighnjpfaaGreatDoorZgl
import Derived.Test.YtainiaighnjpfaaGreatDoorZQak
import Derived.Test.YtainiaighnjpfaaGreatDoorZQaj
set_option linter.unusedVariables false
namespace Go.Ms
open Go.RowKit Go.Lib
theorem qWv.of {w:World} {A:Option Addr} {n c:Nat} {N:List Int} (hc:n≤c) (kc:c≤maxLen) (ll:N.length=n) (ex:Ext w w.heap.size A (wV N)) (ok:∀x∈N,I32 x):qWv w A n N:=
  ⟨ll.symm,Nat.le_trans hc kc,qTx ex,ok⟩
theorem I32.of {m:Int} (h:(Lit.int .i32 m).wf=true):I32 m:=by
 unfold Lit.wf at h
 simp[IntKind.min,IntKind.max,IntKind.signed,IntKind.bits] at h
 unfold I32;omega
end Go.Ms
namespace Go.Proofs.YtainiaighnjpfaaGreatDoor
open Go.RowKit Go.Ms Go.Lib
section
variable {H:Type} {enc:TypeId×Value→H} {w:World} {base:Nat} {spare:Nat→Bool} {held:Bool}
theorem qW0:Tryz.prog.cellsOf 21=1:=by kernel_rfl
theorem qXl {n:Nat} {cs':List Value} {y:DataW H×List MemPlace} (h:DataW.trod enc Tryz.prog w base spare held n 21 cs'=some y):∃x:Int,cs'=oneW x∧I32 x:=by
 obtain⟨m,e,_,wm⟩:=DataW.trod_int Tryz.underlying21 h;exact⟨m,e,I32.of wm⟩
end
end Go.Proofs.YtainiaighnjpfaaGreatDoor
