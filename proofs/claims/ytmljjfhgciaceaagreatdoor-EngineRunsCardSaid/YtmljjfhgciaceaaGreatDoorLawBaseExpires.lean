import Derived.Test.YtmljjfhgciaceaaGreatDoorHd
import Derived.Test.YtmljjfhgciaceaaGreatDoorCz
import Derived.Test.YtmljjfhgciaceaaGreatDoorEX
import Derived.Test.YtmljjfhgciaceaaGreatDoorEB
import Derived.Test.YtmljjfhgciaceaaGreatDoorBK
namespace Go.Proofs.YtmljjfhgciaceaaGreatDoor
open Go.RowKit
set_option maxRecDepth 100000
theorem OW (w:World):Calls Tryz.prog 6 #[ey] w fun x w'=>x = .returned (.bool true)/\aq w w':=by
 obtain⟨W0,hW0⟩:=cd (w.alloc (.cells cz 30));have hb0:aq w W0:=by rw [hW0];exact aj
 have k0:W0.heap[w.heap.size]?=some (.cells cz 30):=by rw [hW0];exact au _ _ rfl
 obtain⟨x0,x1,x3,x5,x7⟩:W0.cell? (w,0)=some (az 0 0)/\W0.cell? (w,1)=some (az 0 0)/\W0.cell? (w,3)=some (az 0 0)/\W0.cell? (w,5)=some (az 0 0)/\(W0,w.heap.size,7):=by simp [World.cell?,k0]
 go_enter Tryz.func6,Tryz.ntmps6;go_upto_region 1 with (fail);rw [<-hW0];clear hW0 k0;go_wp2;go_ret;exact⟨bz bh,aj⟩
end Go.Proofs.YtmljjfhgciaceaaGreatDoor
