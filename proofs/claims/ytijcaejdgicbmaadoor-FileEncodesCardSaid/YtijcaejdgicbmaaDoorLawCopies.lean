/- The law TreeCopies over a tree in memory. -/
import Derived.Test.YtijcaejdgicbmaaDoorCopy
import Derived.Test.YtijcaejdgicbmaaDoorSN
namespace Go.Proofs.YtijcaejdgicbmaaDoor
open Go.RowKit
theorem nodes_slice {w : World} {v : Value} {xs : List Nd} (h : NodesAt w v xs) : ∃ ao n cap, v = .slice ao n cap := by
  obtain ⟨rs, hs, _⟩ := h; obtain ⟨a, c, h⟩ := hs.isSlice; exact ⟨a, _, c, h⟩

end Go.Proofs.YtijcaejdgicbmaaDoor
