/- The short escapes. -/
import Derived.Test.YtklpmghdiflcbaaGreatDoorZA
set_option linter.unusedVariables false
namespace Go.Ms
open Go.Lib
def shortS : Bs := [34, 92, 47, 8, 12, 10, 13, 9]
def shortT : Bs := [34, 92, 47, 98, 102, 110, 114, 116]
end Go.Ms
