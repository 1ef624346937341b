/- The walk of the document's look at entries: do they rise, within bounds, with something known of each? -/
import Derived.Test.YtggcinmjmkfboaaEnts
import Derived.Test.YtggcinmjmkfboaaPA
import Derived.Test.YtggcinmjmkfboaaNG
namespace Go.Proofs.Ytggcinmjmkfboaa
open Go.RowKit

end Go.Proofs.Ytggcinmjmkfboaa
