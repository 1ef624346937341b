/- Lemmas of the proof. -/
import Derived.Test.YtmljjfhgciaceaaGreatDoorKG
import Derived.Test.YtmljjfhgciaceaaGreatDoorPG
import Derived.Test.YtmljjfhgciaceaaGreatDoorHd
import Derived.Test.YtmljjfhgciaceaaGreatDoorCz
namespace Go.Proofs.YtmljjfhgciaceaaGreatDoor
open Go.RowKit
def picked (n m:Int):Int:=(if n<0 then -(n+1)else n)%m
section
variable {q:Nat} {r:ax} {w w':World}
structure zj (w:World) (q:Nat) (r:ax):Prop where
 box:w.heap[q]?=some (.cells #[af r.c,af r.s,af r.mi,af r.ma,af r.t,af r.l] 39)
theorem zj.later (h:zj w q r) (hb:aq w w'):zj w' q r:=⟨(hb.block q (eJ.1 h.box).1).trans h.box⟩
theorem zj.cells (h:zj w q r):(w,q,0,r.c)/\(w,q,1,r.s)/\(w,q,2,r.mi)/\(w,q,3,r.ma)/\(w,q,4,r.t)/\(w,q,5,r.l):=by
 have:=h.box;simp [World.cell?,this]
theorem zj.new (w:World) (r:ax):zj (w.alloc (.cells #[af r.c,af r.s,af r.mi,af r.ma,af r.t,af r.l] 39)) w r:=⟨au _ _ rfl⟩
structure J5 (w:World) (q:Nat) (k a b c:Int):Prop where
 box:w.heap[q]?=some (.cells #[af k,af a,af b,af c] 85)
theorem J5.later {k a b c:Int} (h:J5 w q k a b c) (hb:aq w w'):J5 w' q k a b c:=⟨(hb.block q (eJ.1 h.box).1).trans h.box⟩
theorem J5.cells {k a b c:Int} (h:J5 w q k a b c):(w,q,0,k)/\(w,q,1,a)/\(w,q,2,b)/\(w,q,3,c):=by
 have:=h.box;simp [World.cell?,this]
end
end Go.Proofs.YtmljjfhgciaceaaGreatDoor
