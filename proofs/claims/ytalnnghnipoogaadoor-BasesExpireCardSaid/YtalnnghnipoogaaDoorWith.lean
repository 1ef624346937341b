/- The walk of the document's WithEntry. -/
import Derived.Test.YtalnnghnipoogaaDoorPA
import Derived.Test.YtalnnghnipoogaaDoorKG
import Derived.Test.YtalnnghnipoogaaDoorRO
import Derived.Test.YtalnnghnipoogaaDoorSN
import Derived.Deep.RegionHeld3
namespace Go.Proofs.YtalnnghnipoogaaDoor
open Go.RowKit

theorem zero_roll {W w5 : World} {T : TypeId} (BE : Below (W.alloc (.cells #[.int .i64 0, .int .i64 0, .int .i64 0, .int .i64 0, .int .i64 0, .int .i64 0] T)).drew.heap.size (W.alloc (.cells #[.int .i64 0, .int .i64 0, .int .i64 0, .int .i64 0, .int .i64 0, .int .i64 0] T)).drew w5) :
    w5.heap[W.heap.size]? = some (.cells #[.int .i64 0, .int .i64 0, .int .i64 0, .int .i64 0, .int .i64 0, .int .i64 0] T) ∧ w5.cell? ⟨W.heap.size, 0, none⟩ = some (.int .i64 0) ∧ w5.cell? ⟨W.heap.size, 1, none⟩ = some (.int .i64 0) ∧ w5.cell? ⟨W.heap.size, 2, none⟩ = some (.int .i64 0) ∧ w5.cell? ⟨W.heap.size, 3, none⟩ = some (.int .i64 0) ∧ w5.cell? ⟨W.heap.size, 4, none⟩ = some (.int .i64 0) ∧ w5.cell? ⟨W.heap.size, 5, none⟩ = some (.int .i64 0) ∧ ∀ o, w5.frozen? ⟨W.heap.size, o, none⟩ = false := by
  have h : w5.heap[W.heap.size]? = some (.cells #[.int .i64 0, .int .i64 0, .int .i64 0, .int .i64 0, .int .i64 0, .int .i64 0] T) := (BE.block _ (by simp)).trans (heap_new _ _ rfl)
  simp [h, World.cell?, World.frozen?]

end Go.Proofs.YtalnnghnipoogaaDoor
