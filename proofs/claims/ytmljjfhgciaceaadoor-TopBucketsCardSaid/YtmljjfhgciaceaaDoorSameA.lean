import Derived.Test.YtmljjfhgciaceaaDoorEqRows
import Derived.Test.YtmljjfhgciaceaaDoorEG
import Derived.Laws.Slices
namespace Go.Proofs.YtmljjfhgciaceaaDoor
open Go.RowKit
end Go.Proofs.YtmljjfhgciaceaaDoor
