/- The reference's Quote. -/
import Derived.Test.YthgmdlibnjkdoaaGreatDoorZRa
import Derived.Test.YthgmdlibnjkdoaaGreatDoorZR7
import Derived.Test.YthgmdlibnjkdoaaGreatDoorZQa
import Derived.Test.YthgmdlibnjkdoaaGreatDoorZA
set_option linter.unusedVariables false
namespace Go.Proofs.YthgmdlibnjkdoaaGreatDoor
open Go.RowKit Go.Ms Go.Lib


end Go.Proofs.YthgmdlibnjkdoaaGreatDoor
