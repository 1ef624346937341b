/- Texts of mine that come as one: Picked Rollup Box. -/
import Derived.Test.YtmljjfhgciaceaaDoorKG
import Derived.Test.YtmljjfhgciaceaaDoorPG
import Derived.Test.YtmljjfhgciaceaaDoorHd
namespace Go.Proofs.YtmljjfhgciaceaaDoor
open Go.RowKit
section
variable {k a b c:Int} {q:Nat} {r:aw} {w w':World}
structure Az (w:World) (q:Nat) (r:aw):Prop where
 box:w.heap[q]?=some (.cells #[.int .i64 r.c, .int .i64 r.s, .int .i64 r.mi, .int .i64 r.ma, .int .i64 r.t, .int .i64 r.l] 42)
theorem Az.later (h:Az w q r) (hb:ah w w'):Az w' q r:=⟨(hb.block q (eI.1 h.box).1).trans h.box⟩
theorem Az.cells (h:Az w q r):w.cell? ⟨q,0,none⟩=some (.int .i64 r.c)/\w.cell? ⟨q,1,none⟩=some (.int .i64 r.s)/\w.cell? ⟨q,2,none⟩=some (.int .i64 r.mi)/\w.cell? ⟨q,3,none⟩=some (.int .i64 r.ma)/\w.cell? ⟨q,4,none⟩=some (.int .i64 r.t)/\w.cell? ⟨q,5,none⟩=some (.int .i64 r.l):=by
 have:=h.box
 simp [World.cell?,this]
theorem Az.new (w:World) (r:aw):Az (w.alloc (.cells #[.int .i64 r.c, .int .i64 r.s, .int .i64 r.mi, .int .i64 r.ma, .int .i64 r.t, .int .i64 r.l] 42)) w.heap.size r:=⟨aj _ _ rfl⟩
structure Fi (w:World) (q:Nat) (k a b c:Int):Prop where
 box:w.heap[q]?=some (.cells #[.int .i64 k, .int .i64 a, .int .i64 b, .int .i64 c] 75)
theorem Fi.later (h:Fi w q k a b c) (hb:ah w w'):Fi w' q k a b c:=⟨(hb.block q (eI.1 h.box).1).trans h.box⟩
theorem Fi.cells (h:Fi w q k a b c):w.cell? ⟨q,0,none⟩=some (.int .i64 k)/\w.cell? ⟨q,1,none⟩=some (.int .i64 a)/\w.cell? ⟨q,2,none⟩=some (.int .i64 b)/\w.cell? ⟨q,3,none⟩=some (.int .i64 c):=by
 have:=h.box
 simp [World.cell?,this]
end
end Go.Proofs.YtmljjfhgciaceaaDoor
