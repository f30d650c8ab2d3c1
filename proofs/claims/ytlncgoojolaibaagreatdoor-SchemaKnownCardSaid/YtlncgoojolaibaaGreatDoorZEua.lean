/- Cells: what is taken off. Cells: what is taken off. Cells: what is taken off. Cells: what is taken off. Cells: what is taken off. -/
import Derived.Test.YtlncgoojolaibaaGreatDoorZEe
set_option linter.unusedVariables false
namespace Go.Proofs.YtlncgoojolaibaaGreatDoor
open Go.RowKit Go.Ms Go.Lib
end Go.Proofs.YtlncgoojolaibaaGreatDoor
namespace Go.Proofs.YtlncgoojolaibaaGreatDoor
open Go.RowKit Go.Ms Go.Lib
end Go.Proofs.YtlncgoojolaibaaGreatDoor
namespace Go.Proofs.YtlncgoojolaibaaGreatDoor
open Go.RowKit Go.Ms Go.Lib
end Go.Proofs.YtlncgoojolaibaaGreatDoor
namespace Go.Proofs.YtlncgoojolaibaaGreatDoor
open Go.RowKit Go.Ms Go.Lib
end Go.Proofs.YtlncgoojolaibaaGreatDoor
namespace Go.Proofs.YtlncgoojolaibaaGreatDoor
open Go.RowKit Go.Ms Go.Lib
end Go.Proofs.YtlncgoojolaibaaGreatDoor
