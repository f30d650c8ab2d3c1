/- Cells: what is read. -/
import Derived.Test.YtcdmiiaamajfoaaGreatDoorYEf
import Derived.Test.YtcdmiiaamajfoaaGreatDoorYEe
set_option linter.unusedVariables false
namespace Go.Proofs.YtcdmiiaamajfoaaGreatDoor
open Go.RowKit Go.Ms Go.Lib


end Go.Proofs.YtcdmiiaamajfoaaGreatDoor
