/- The walk of the document's AllOf. -/
import Derived.Test.YtalnnghnipoogaaDoorPA
import Derived.Test.YtalnnghnipoogaaDoorWith
import Derived.Test.YtalnnghnipoogaaDoorHT
import Derived.StillTailTactics
namespace Go.Proofs.YtalnnghnipoogaaDoor
open Go.RowKit

def AllPost (B : Nat) (w : World) (f : Int) (r : Option (List Ent)) (e : Ending) (w' : World) : Prop :=
  Below B w w' ∧ (f ≠ 0 → e = .returned (.tuple #[.slice none 0 0, .int .i64 f])) ∧ (f = 0 → match r with | none => e = .returned (.tuple #[.slice none 0 0, .int .i64 1]) | some l => ∃ v', e = .returned (.tuple #[v', .int .i64 0]) ∧ OwnEnts B w' v' l)

end Go.Proofs.YtalnnghnipoogaaDoor
