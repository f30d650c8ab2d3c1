/- Cells: what is taken off, whole. -/
import Derived.Test.YthgmdlibnjkdoaaGreatDoorZEua
import Derived.Test.YthgmdlibnjkdoaaGreatDoorZEub
import Derived.Test.YthgmdlibnjkdoaaGreatDoorZE20
set_option linter.unusedVariables false
namespace Go.Proofs.YthgmdlibnjkdoaaGreatDoor
open Go.RowKit Go.Ms Go.Lib

end Go.Proofs.YthgmdlibnjkdoaaGreatDoor
