/- The reference's Unquote. -/
import Derived.Test.YthgmdlibnjkdoaaGreatDoorZRb
import Derived.Test.YthgmdlibnjkdoaaGreatDoorZR6
import Derived.Test.YthgmdlibnjkdoaaGreatDoorZUb
import Derived.Test.YthgmdlibnjkdoaaGreatDoorZBr
set_option linter.unusedVariables false
namespace Go.Proofs.YthgmdlibnjkdoaaGreatDoor
open Go.RowKit Go.Ms Go.Lib

theorem infoU8 : (Tryz.prog.info? 5).map (fun i => (i.zero, i.size, i.bytes)) = some (some (.int .u8 0), 1, 1) := by kernel_rfl

end Go.Proofs.YthgmdlibnjkdoaaGreatDoor
