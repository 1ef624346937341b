/- Texts of mine that come as one: AddQ AddZ. -/
import Derived.Test.YtmljjfhgciaceaaDoorHd
import Derived.Test.YtmljjfhgciaceaaDoorPU
import Derived.Test.YtmljjfhgciaceaaDoorPS
import Derived.Test.YtmljjfhgciaceaaDoorKG
namespace Go.Proofs.YtmljjfhgciaceaaDoor
theorem fM {l:List aA} (s:Int) (h:Checked l):Checked (l.map (bucket s)):=fun e he=>by
 obtain⟨y,hy,rfl⟩:=lI.1 he
 exact h y hy
open Go.RowKit
abbrev cN:Array Value:=#[.slice none 0 0, .slice none 0 0, .int .i64 0, .slice none 0 0, .int .i64 0, .slice none 0 0, .int .i64 0, .int .i64 0]
abbrev dH:Value:= .agg #[.slice none 0 0, .slice none 0 0, .int .i64 0, .slice none 0 0, .int .i64 0, .slice none 0 0, .int .i64 0, .int .i64 0]
theorem jd {w:World} {B:Nat} {a0 a1 a2 a3 a4 a5 a6 a7 v0 v1 v2 v3 v4 v5 v6 v7:Value} {e:TypeId} {fr:Nat×Nat} (h:w.heap[B]?=some (.cells #[a0,a1,a2,a3,a4,a5,a6,a7] e fr)) :
  ((((((((w.setCell ⟨B,0,none⟩ v0).setCell ⟨B,1,none⟩ v1).setCell ⟨B,2,none⟩ v2).setCell ⟨B,3,none⟩ v3).setCell ⟨B,4,none⟩ v4).setCell ⟨B,5,none⟩ v5).setCell ⟨B,6,none⟩ v6).setCell ⟨B,7,none⟩ v7).heap[B]?=some (.cells #[v0,v1,v2,v3,v4,v5,v6,v7] e fr):=by
 have h:=heap_setCell_same (off:=7) (v:=v7) (heap_setCell_same (off:=6) (v:=v6) (heap_setCell_same (off:=5) (v:=v5) (heap_setCell_same (off:=4) (v:=v4) (heap_setCell_same (off:=3) (v:=v3) (heap_setCell_same (off:=2) (v:=v2) (heap_setCell_same (off:=1) (v:=v1) (heap_setCell_same (off:=0) (v:=v0) h)))))))
 simpa using h
end Go.Proofs.YtmljjfhgciaceaaDoor
