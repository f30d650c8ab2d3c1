/- The reference of the cells: Whole. The reference of the cells: Unhex. The reference of the cells: Unhex, the walk. The reference of the cells: run, the walk. -/
import Derived.Test.YthgmdlibnjkdoaaGreatDoorZHb
set_option linter.unusedVariables false
set_option linter.unusedSimpArgs false
namespace Go.Ms
open Go.Lib
end Go.Ms
namespace Go.Proofs.YthgmdlibnjkdoaaGreatDoor
open Go.RowKit Go.Ms Go.Lib


end Go.Proofs.YthgmdlibnjkdoaaGreatDoor
set_option linter.unusedSimpArgs false
namespace Go.Ms
open Go.Lib
end Go.Ms
namespace Go.Proofs.YthgmdlibnjkdoaaGreatDoor
open Go.RowKit Go.Ms Go.Lib
end Go.Proofs.YthgmdlibnjkdoaaGreatDoor
set_option linter.unusedSimpArgs false
namespace Go.Proofs.YthgmdlibnjkdoaaGreatDoor
open Go.RowKit Go.Ms Go.Lib

end Go.Proofs.YthgmdlibnjkdoaaGreatDoor
set_option linter.unusedSimpArgs false
namespace Go.Proofs.YthgmdlibnjkdoaaGreatDoor
open Go.RowKit Go.Ms Go.Lib
end Go.Proofs.YthgmdlibnjkdoaaGreatDoor
