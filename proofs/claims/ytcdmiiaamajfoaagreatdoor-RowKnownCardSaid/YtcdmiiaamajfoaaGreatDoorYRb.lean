/- The reference's digit and half. The reference's begins. -/
import Derived.Test.YtcdmiiaamajfoaaGreatDoorYB
import Derived.Test.YtcdmiiaamajfoaaGreatDoorYUa
import Derived.Test.YtcdmiiaamajfoaaGreatDoorYRa
set_option linter.unusedVariables false
namespace Go.Proofs.YtcdmiiaamajfoaaGreatDoor
open Go.RowKit Go.Ms Go.Lib





end Go.Proofs.YtcdmiiaamajfoaaGreatDoor
namespace Go.Proofs.YtcdmiiaamajfoaaGreatDoor
open Go.RowKit Go.Ms Go.Lib


end Go.Proofs.YtcdmiiaamajfoaaGreatDoor
