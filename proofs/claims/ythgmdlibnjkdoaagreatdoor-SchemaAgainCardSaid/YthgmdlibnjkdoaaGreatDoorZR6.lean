/- The reference's escape. -/
import Derived.Test.YthgmdlibnjkdoaaGreatDoorZRa
import Derived.Test.YthgmdlibnjkdoaaGreatDoorZRb
import Derived.Test.YthgmdlibnjkdoaaGreatDoorZUb
set_option linter.unusedVariables false
namespace Go.Proofs.YthgmdlibnjkdoaaGreatDoor
open Go.RowKit Go.Ms Go.Lib


end Go.Proofs.YthgmdlibnjkdoaaGreatDoor
