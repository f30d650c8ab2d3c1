/- Facts for the walks. -/
import Derived.Test.YtcdmiiaamajfoaaGreatDoorYQa
import Derived.Test.YtcdmiiaamajfoaaGreatDoorYPa
import Derived.Maps.RangeWalk
set_option linter.unusedVariables false
namespace Go.Proofs.YtcdmiiaamajfoaaGreatDoor
open Go.RowKit Go.Ms Go.Lib Go.MapKept




section
open Go.ChangeMaps (setBlock)
variable {P : Program} (w : World) {ops : Array Oper} {rest : List Oper} {o : Oper} {a : Act} {Q : Exit → Act → World → Prop}
end

end Go.Proofs.YtcdmiiaamajfoaaGreatDoor
