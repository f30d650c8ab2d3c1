/- Facts for the walks. -/
import Derived.Test.YtcdmiiaamajfoaaGreatDoorYB
set_option linter.unusedVariables false
namespace Go.Proofs.YtcdmiiaamajfoaaGreatDoor
open Go.RowKit Go.Ms Go.Lib

end Go.Proofs.YtcdmiiaamajfoaaGreatDoor
