/- The walk of the document's Rolled: entries of points as those of buckets. -/
import Derived.Test.YtalnnghnipoogaaDoorPA
import Derived.Test.YtalnnghnipoogaaDoorWith
import Derived.StillTailTactics
import Derived.Deep.CutBlock
namespace Go.Proofs.YtalnnghnipoogaaDoor
open Go.RowKit

def RolPost (B : Nat) (w : World) (r : Option (List Ent)) (e : Ending) (w' : World) : Prop :=
  Below B w w' ∧ (match r with | none => e = .returned (.tuple #[.slice none 0 0, .bool false]) | some l => ∃ v', e = .returned (.tuple #[v', .bool true]) ∧ OwnEnts B w' v' l)
end Go.Proofs.YtalnnghnipoogaaDoor
