import Derived.Test.YtmljjfhgciaceaaDoorPS
import Derived.Test.YtmljjfhgciaceaaDoorTG
import Derived.Test.YtmljjfhgciaceaaDoorAK
namespace Go.Proofs.YtmljjfhgciaceaaDoor
open Go.RowKit
end Go.Proofs.YtmljjfhgciaceaaDoor
