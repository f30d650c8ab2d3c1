/- Rows: what is known of cells. Rows: cells stand while only new blocks are written. Rows: what Check answers. Rows: how two stand. Rows: whether two are the same; a row copied. Rows: a row copied. Rows: places held against a number; the cells at places. -/
import Derived.Test.YtcdmiiaamajfoaaGreatDoorZYa
import Derived.Test.YtcdmiiaamajfoaaGreatDoorZE22
import Derived.Test.YtcdmiiaamajfoaaGreatDoorZHb
import Derived.Test.YtcdmiiaamajfoaaGreatDoorZIb
import Derived.Test.YtcdmiiaamajfoaaGreatDoorZB
import Derived.Deep.RegionHeld3
import Derived.Deep.RegionLaw
import Derived.Deep.RegionWith
set_option linter.unusedVariables false
namespace Go.Ms
end Go.Ms
namespace Go.Proofs.YtcdmiiaamajfoaaGreatDoor
open Go.RowKit Go.Ms Go.Lib
end Go.Proofs.YtcdmiiaamajfoaaGreatDoor
namespace Go.Proofs.YtcdmiiaamajfoaaGreatDoor
open Go.RowKit Go.Ms Go.Lib
/-- What a closure over columns sees. -/
structure SeesCols (w : World) (p : Addr) (A : Option Addr) (n cap : Nat) (ts : List Ty) (xs : List Value) : Prop where
  box : w.cell? p = some (.slice A n cap)
  cols : Cols w w.heap.size A ts xs
  len : n = ts.length
theorem SeesCols.below {w w' : World} {p : Addr} {A : Option Addr} {n cap : Nat} {ts : List Ty} {xs : List Value} (h : SeesCols w p A n cap ts xs) (hb : Below w.heap.size w w') : SeesCols w' p A n cap ts xs :=
  ⟨(hb.cell (cell_lt h.box)).trans h.box, (h.cols.below hb).more hb.size, h.len⟩
end Go.Proofs.YtcdmiiaamajfoaaGreatDoor
namespace Go.Ms
end Go.Ms
namespace Go.Proofs.YtcdmiiaamajfoaaGreatDoor
open Go.RowKit Go.Ms Go.Lib
end Go.Proofs.YtcdmiiaamajfoaaGreatDoor
namespace Go.Proofs.YtcdmiiaamajfoaaGreatDoor
open Go.RowKit Go.Ms Go.Lib
end Go.Proofs.YtcdmiiaamajfoaaGreatDoor
namespace Go.Proofs.YtcdmiiaamajfoaaGreatDoor
open Go.RowKit Go.Ms Go.Lib
end Go.Proofs.YtcdmiiaamajfoaaGreatDoor
namespace Go.Ms
end Go.Ms
namespace Go.Proofs.YtcdmiiaamajfoaaGreatDoor
open Go.RowKit Go.Ms Go.Lib
end Go.Proofs.YtcdmiiaamajfoaaGreatDoor
