/- The walk of the document's look at entries: do they rise, within bounds, with something known of each? -/
import Derived.Test.YtggcinmjmkfboaaDoorEnts
import Derived.Test.YtggcinmjmkfboaaDoorPA
import Derived.Test.YtggcinmjmkfboaaDoorNG
namespace Go.Proofs.YtggcinmjmkfboaaDoor
open Go.RowKit

end Go.Proofs.YtggcinmjmkfboaaDoor
