/- Cells: what is taken off. Cells: what is taken off. Cells: what is taken off. -/
import Derived.Test.YthgmdlibnjkdoaaGreatDoorZEe
set_option linter.unusedVariables false
namespace Go.Proofs.YthgmdlibnjkdoaaGreatDoor
open Go.RowKit Go.Ms Go.Lib

end Go.Proofs.YthgmdlibnjkdoaaGreatDoor
namespace Go.Proofs.YthgmdlibnjkdoaaGreatDoor
open Go.RowKit Go.Ms Go.Lib

end Go.Proofs.YthgmdlibnjkdoaaGreatDoor
namespace Go.Proofs.YthgmdlibnjkdoaaGreatDoor
open Go.RowKit Go.Ms Go.Lib

end Go.Proofs.YthgmdlibnjkdoaaGreatDoor
