import Derived.Test.YtmljjfhgciaceaaGreatDoorEG
import Derived.Deep.DeepAppendWide
import Derived.Lib.AppendZeros
namespace Go.Proofs.YtmljjfhgciaceaaGreatDoor
open Go.RowKit
end Go.Proofs.YtmljjfhgciaceaaGreatDoor
