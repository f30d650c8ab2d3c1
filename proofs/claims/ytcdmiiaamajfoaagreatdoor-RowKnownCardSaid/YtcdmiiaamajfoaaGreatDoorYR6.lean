/- The reference's escape. -/
import Derived.Test.YtcdmiiaamajfoaaGreatDoorYRa
import Derived.Test.YtcdmiiaamajfoaaGreatDoorYRb
import Derived.Test.YtcdmiiaamajfoaaGreatDoorYUb
set_option linter.unusedVariables false
namespace Go.Proofs.YtcdmiiaamajfoaaGreatDoor
open Go.RowKit Go.Ms Go.Lib


end Go.Proofs.YtcdmiiaamajfoaaGreatDoor
