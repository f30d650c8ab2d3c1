/- Facts for the walks. -/
import Derived.Test.YtcdmiiaamajfoaaGreatDoorYQ3
import Derived.Test.YtcdmiiaamajfoaaGreatDoorYPa
import Derived.Deep.LoopGhost
import Derived.Deep.RegionWith
set_option linter.unusedVariables false
namespace Go.Proofs.YtcdmiiaamajfoaaGreatDoor
open Go.RowKit Go.Ms Go.Lib Go.MapKept


end Go.Proofs.YtcdmiiaamajfoaaGreatDoor
