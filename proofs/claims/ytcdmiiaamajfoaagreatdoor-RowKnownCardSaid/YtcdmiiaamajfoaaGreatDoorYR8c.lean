/- The reference's Quote. -/
import Derived.Test.YtcdmiiaamajfoaaGreatDoorYRa
import Derived.Test.YtcdmiiaamajfoaaGreatDoorYR7
import Derived.Test.YtcdmiiaamajfoaaGreatDoorYQa
import Derived.Test.YtcdmiiaamajfoaaGreatDoorYA
set_option linter.unusedVariables false
namespace Go.Proofs.YtcdmiiaamajfoaaGreatDoor
open Go.RowKit Go.Ms Go.Lib

theorem new_cells (w : World) (e : TypeId) (ns : List Int) : ∀ j u, (ns.map (Value.int .u8))[j]? = some u → (w.alloc (.cells (ns.map (Value.int .u8)).toArray e)).cell? ((⟨w.heap.size, 0, none⟩ : Addr).add j) = some u := by
  intro j u hu
  have hadd : (⟨w.heap.size, 0, none⟩ : Addr).add j = ⟨w.heap.size, j, none⟩ := by unfold Addr.add; split <;> simp_all
  rw [hadd, Lib.cell_of_heap (heap_alloc_new w _)]
  simpa using hu

end Go.Proofs.YtcdmiiaamajfoaaGreatDoor
