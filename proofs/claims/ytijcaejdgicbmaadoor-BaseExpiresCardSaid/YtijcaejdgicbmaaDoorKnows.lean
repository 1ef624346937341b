/- The walks of 'knows' and of tree.New; the law TreeNew. -/
import Derived.Test.YtijcaejdgicbmaaDoorAllOf
import Derived.Test.YtijcaejdgicbmaaDoorCP
namespace Go.Proofs.YtijcaejdgicbmaaDoor
open Go.RowKit

open Classical in
/-- Does a tree know just these entries? -/
noncomputable def knowsB (t : Tr) (xs : List Ent) : Bool := decide (treeFault t = 0 ∧ allR t 0 1099511627776 = some xs)

end Go.Proofs.YtijcaejdgicbmaaDoor
