/- The walk of the document's look at entries: do they rise, within bounds, with something known of each? -/
import Derived.Test.YtalnnghnipoogaaDoorEnts
import Derived.Test.YtalnnghnipoogaaDoorPA
import Derived.Test.YtalnnghnipoogaaDoorNG
namespace Go.Proofs.YtalnnghnipoogaaDoor
open Go.RowKit

end Go.Proofs.YtalnnghnipoogaaDoor
