/- Lemmas of the proof. -/
import Derived.Test.YtmljjfhgciaceaaGreatDoorHd
import Derived.Test.YtmljjfhgciaceaaGreatDoorPU
import Derived.Test.YtmljjfhgciaceaaGreatDoorPS
namespace Go.Proofs.YtmljjfhgciaceaaGreatDoor
theorem ia {l:List aH} (s:Int) (h:Checked l):Checked (l.map (bucket s)):=fun e he=>by
 obtain⟨y,hy,rfl⟩:=ua.1 he;exact h y hy
end Go.Proofs.YtmljjfhgciaceaaGreatDoor
