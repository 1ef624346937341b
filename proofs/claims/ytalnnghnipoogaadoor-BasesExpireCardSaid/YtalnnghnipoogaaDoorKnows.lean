/- The walks of 'knows' and of tree.New; the law TreeNew. -/
import Derived.Test.YtalnnghnipoogaaDoorAllOf
import Derived.Test.YtalnnghnipoogaaDoorCP
namespace Go.Proofs.YtalnnghnipoogaaDoor
open Go.RowKit

end Go.Proofs.YtalnnghnipoogaaDoor
