/- The walk of the document's GotOf. -/
import Derived.Test.YtggcinmjmkfboaaAllOf
import Derived.Test.YtggcinmjmkfboaaCP
namespace Go.Proofs.Ytggcinmjmkfboaa
open Go.RowKit

/-- What is known of a tree at a key, and the error. -/
noncomputable def gotS (t : Tr) (key : Int) : Roll × Int := if treeFault t = 0 then (if 0 ≤ key ∧ key ≤ 1099511627775 then getR t key else (Roll.zero, 2)) else (Roll.zero, treeFault t)
theorem zero_cells {w : World} {b : Nat} {a0 a1 a2 a3 a4 a5 : Value} {T : TypeId} (h : w.heap[b]? = some (.cells #[a0, a1, a2, a3, a4, a5] T)) :
    w.cell? ⟨b, 0, none⟩ = some a0 ∧ w.cell? ⟨b, 1, none⟩ = some a1 ∧ w.cell? ⟨b, 2, none⟩ = some a2 ∧ w.cell? ⟨b, 3, none⟩ = some a3 ∧ w.cell? ⟨b, 4, none⟩ = some a4 ∧ w.cell? ⟨b, 5, none⟩ = some a5 ∧ ∀ o, w.frozen? ⟨b, o, none⟩ = false := by
  simp [World.cell?, World.frozen?, h]

end Go.Proofs.Ytggcinmjmkfboaa
