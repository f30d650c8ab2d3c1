/- The reference's Unquote. -/
import Derived.Test.YthgmdlibnjkdoaaGreatDoorZRb
import Derived.Test.YthgmdlibnjkdoaaGreatDoorZR6
import Derived.Test.YthgmdlibnjkdoaaGreatDoorZUb
import Derived.Test.YthgmdlibnjkdoaaGreatDoorZBr
set_option linter.unusedVariables false
namespace Go.Proofs.YthgmdlibnjkdoaaGreatDoor
open Go.RowKit Go.Ms Go.Lib


end Go.Proofs.YthgmdlibnjkdoaaGreatDoor
