/- The reference of the cells: what Read answers, in plain terms. The reference of the cells: guess, the walk. The reference of the cells: bare, the walk. The reference of the cells: Unbits. -/
import Derived.Test.YthgmdlibnjkdoaaGreatDoorZIa
import Derived.Test.YthgmdlibnjkdoaaGreatDoorZE20
import Derived.Test.YthgmdlibnjkdoaaGreatDoorZHb
import Derived.Test.YthgmdlibnjkdoaaGreatDoorZF6
import Derived.Test.YthgmdlibnjkdoaaGreatDoorZEe
set_option linter.unusedVariables false
set_option linter.unusedSimpArgs false
namespace Go.Ms
open Go.Lib
end Go.Ms
namespace Go.Proofs.YthgmdlibnjkdoaaGreatDoor
open Go.RowKit Go.Ms Go.Lib
end Go.Proofs.YthgmdlibnjkdoaaGreatDoor
set_option linter.unusedSimpArgs false
namespace Go.Proofs.YthgmdlibnjkdoaaGreatDoor
open Go.RowKit Go.Ms Go.Lib
end Go.Proofs.YthgmdlibnjkdoaaGreatDoor
set_option linter.unusedSimpArgs false
namespace Go.Ms
open Go.Lib
end Go.Ms
namespace Go.Proofs.YthgmdlibnjkdoaaGreatDoor
open Go.RowKit Go.Ms Go.Lib
end Go.Proofs.YthgmdlibnjkdoaaGreatDoor
set_option linter.unusedSimpArgs false
namespace Go.Ms
open Go.Lib
end Go.Ms
namespace Go.Proofs.YthgmdlibnjkdoaaGreatDoor
open Go.RowKit Go.Ms Go.Lib
end Go.Proofs.YthgmdlibnjkdoaaGreatDoor
