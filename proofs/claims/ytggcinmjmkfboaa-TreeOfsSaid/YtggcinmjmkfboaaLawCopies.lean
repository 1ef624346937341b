/- The law TreeCopies over a tree in memory. -/
import Derived.Test.YtggcinmjmkfboaaCopy
import Derived.Test.YtggcinmjmkfboaaSN
namespace Go.Proofs.Ytggcinmjmkfboaa
open Go.RowKit
theorem nodes_slice {w : World} {v : Value} {xs : List Nd} (h : NodesAt w v xs) : ∃ ao n cap, v = .slice ao n cap := by
  obtain ⟨rs, hs, _⟩ := h; obtain ⟨a, c, h⟩ := hs.isSlice; exact ⟨a, _, c, h⟩

end Go.Proofs.Ytggcinmjmkfboaa
