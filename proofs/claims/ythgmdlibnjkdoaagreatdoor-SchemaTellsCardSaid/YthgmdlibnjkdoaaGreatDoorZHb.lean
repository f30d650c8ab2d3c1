/- The reference of the cells: whole numbers' texts; hex. The reference of the cells: Text. The reference of the cells: Bits. Bounds of whole numbers. The reference of the cells: Bits, whole. CellWrites: the walk. -/
import Derived.Test.YthgmdlibnjkdoaaGreatDoorZHa
import Derived.Test.YthgmdlibnjkdoaaGreatDoorZR8c
import Derived.Test.YthgmdlibnjkdoaaGreatDoorZFa
set_option linter.unusedVariables false
namespace Go.Ms
open Go.Lib
end Go.Ms
namespace Go.Proofs.YthgmdlibnjkdoaaGreatDoor
open Go.RowKit Go.Ms Go.Lib


end Go.Proofs.YthgmdlibnjkdoaaGreatDoor
namespace Go.Proofs.YthgmdlibnjkdoaaGreatDoor
open Go.RowKit Go.Ms Go.Lib

end Go.Proofs.YthgmdlibnjkdoaaGreatDoor
set_option linter.unusedSimpArgs false
namespace Go.Ms
open Go.Lib
end Go.Ms
namespace Go.Proofs.YthgmdlibnjkdoaaGreatDoor
open Go.RowKit Go.Ms Go.Lib


end Go.Proofs.YthgmdlibnjkdoaaGreatDoor
namespace Go.Proofs.YthgmdlibnjkdoaaGreatDoor
open Go.RowKit Go.Ms Go.Lib
end Go.Proofs.YthgmdlibnjkdoaaGreatDoor
namespace Go.Proofs.YthgmdlibnjkdoaaGreatDoor
open Go.RowKit Go.Ms Go.Lib

end Go.Proofs.YthgmdlibnjkdoaaGreatDoor
