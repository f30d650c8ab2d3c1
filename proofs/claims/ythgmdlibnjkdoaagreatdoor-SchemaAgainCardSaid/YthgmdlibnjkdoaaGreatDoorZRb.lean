/- The reference's digit and half. The reference's begins. -/
import Derived.Test.YthgmdlibnjkdoaaGreatDoorZB
import Derived.Test.YthgmdlibnjkdoaaGreatDoorZUa
import Derived.Test.YthgmdlibnjkdoaaGreatDoorZRa
set_option linter.unusedVariables false
namespace Go.Proofs.YthgmdlibnjkdoaaGreatDoor
open Go.RowKit Go.Ms Go.Lib

def lowD (k : Nat) : Int := if k < 10 then 48 + k else 87 + k
theorem low_at : ∀ k : Fin 16, ((((⟨#[48, 49, 50, 51, 52, 53, 54, 55, 56, 57, 97, 98, 99, 100, 101, 102]⟩ : ByteArray)[k.val]'(k.isLt)).toNat : Nat) : Int) = lowD k.val := by decide




end Go.Proofs.YthgmdlibnjkdoaaGreatDoor
namespace Go.Proofs.YthgmdlibnjkdoaaGreatDoor
open Go.RowKit Go.Ms Go.Lib


end Go.Proofs.YthgmdlibnjkdoaaGreatDoor
