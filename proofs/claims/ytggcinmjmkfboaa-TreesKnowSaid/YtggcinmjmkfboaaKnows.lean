/- The walks of 'knows' and of tree.New; the law TreeNew. -/
import Derived.Test.YtggcinmjmkfboaaAllOf
import Derived.Test.YtggcinmjmkfboaaCP
namespace Go.Proofs.Ytggcinmjmkfboaa
open Go.RowKit

end Go.Proofs.Ytggcinmjmkfboaa
