/- The reference's Unquote. -/
import Derived.Test.YtcdmiiaamajfoaaGreatDoorYRb
import Derived.Test.YtcdmiiaamajfoaaGreatDoorYR6
import Derived.Test.YtcdmiiaamajfoaaGreatDoorYUb
import Derived.Test.YtcdmiiaamajfoaaGreatDoorYBr
set_option linter.unusedVariables false
namespace Go.Proofs.YtcdmiiaamajfoaaGreatDoor
open Go.RowKit Go.Ms Go.Lib

theorem infoU8 : (Tryz.prog.info? 5).map (fun i => (i.zero, i.size, i.bytes)) = some (some (.int .u8 0), 1, 1) := by kernel_rfl

end Go.Proofs.YtcdmiiaamajfoaaGreatDoor
