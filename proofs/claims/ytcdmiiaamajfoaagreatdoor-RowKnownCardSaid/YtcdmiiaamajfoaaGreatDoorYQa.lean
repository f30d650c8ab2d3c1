/- Facts for the walks. -/
import Derived.Test.YtcdmiiaamajfoaaGreatDoorYPa
import Derived.Test.YtcdmiiaamajfoaaGreatDoorYA
import Derived.MapKept
import Derived.StillTailTactics
set_option linter.unusedVariables false
namespace Go.Proofs.YtcdmiiaamajfoaaGreatDoor
open Go.RowKit Go.Ms Go.Lib Go.MapKept







end Go.Proofs.YtcdmiiaamajfoaaGreatDoor
namespace Go.Proofs.YtcdmiiaamajfoaaGreatDoor
open Go.RowKit Go.Ms Go.Lib Go.MapKept


end Go.Proofs.YtcdmiiaamajfoaaGreatDoor
