/- Schemas: a copy. -/
import Derived.Test.YtikpmmipopmjaaaGreatDoorZQu
import Derived.Test.YtikpmmipopmjaaaGreatDoorZQn
import Derived.Deep.RegionWith
set_option linter.unusedVariables false
set_option linter.unusedSimpArgs false
namespace Go.Proofs.YtikpmmipopmjaaaGreatDoor
open Go.RowKit Go.Ms Go.Lib
end Go.Proofs.YtikpmmipopmjaaaGreatDoor
