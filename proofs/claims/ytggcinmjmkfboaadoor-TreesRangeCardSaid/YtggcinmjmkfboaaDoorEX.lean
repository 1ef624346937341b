/- Texts of mine that come as one: AddQ AddZ ExpP ExpA. -/
import Derived.Test.YtggcinmjmkfboaaDoorPU
import Derived.Test.YtggcinmjmkfboaaDoorRG
import Derived.Test.YtggcinmjmkfboaaDoorKG
import Derived.Test.YtggcinmjmkfboaaDoorMerged
import Derived.Test.YtggcinmjmkfboaaDoorInsertI
import Derived.Test.YtggcinmjmkfboaaDoorSP
/- Of base.Add and base.Expire: plain. -/
namespace Go.Proofs.YtggcinmjmkfboaaDoor

theorem checked_bucket {l : List Ent} (s : Int) (h : Checked l) : Checked (l.map (bucket s)) := fun e he => by
  obtain ⟨y, hy, rfl⟩ := List.mem_map.1 he
  exact h y hy
end Go.Proofs.YtggcinmjmkfboaaDoor

/- Of base.Add and base.Expire: the zero base. -/
namespace Go.Proofs.YtggcinmjmkfboaaDoor
open Go.RowKit

abbrev zeroBC : Array Value := #[.slice none 0 0, .slice none 0 0, .int .i64 0, .slice none 0 0, .int .i64 0, .slice none 0 0, .int .i64 0, .int .i64 0]
abbrev zeroB : Value := .agg #[.slice none 0 0, .slice none 0 0, .int .i64 0, .slice none 0 0, .int .i64 0, .slice none 0 0, .int .i64 0, .int .i64 0]
theorem heap_set8 {w : World} {B : Nat} {a0 a1 a2 a3 a4 a5 a6 a7 v0 v1 v2 v3 v4 v5 v6 v7 : Value} {e : TypeId} {fr : Nat × Nat} (h : w.heap[B]? = some (.cells #[a0, a1, a2, a3, a4, a5, a6, a7] e fr)) :
    ((((((((w.setCell ⟨B, 0, none⟩ v0).setCell ⟨B, 1, none⟩ v1).setCell ⟨B, 2, none⟩ v2).setCell ⟨B, 3, none⟩ v3).setCell ⟨B, 4, none⟩ v4).setCell ⟨B, 5, none⟩ v5).setCell ⟨B, 6, none⟩ v6).setCell ⟨B, 7, none⟩ v7).heap[B]? = some (.cells #[v0, v1, v2, v3, v4, v5, v6, v7] e fr) := by
  have h := heap_setCell_same (off := 7) (v := v7) (heap_setCell_same (off := 6) (v := v6) (heap_setCell_same (off := 5) (v := v5) (heap_setCell_same (off := 4) (v := v4) (heap_setCell_same (off := 3) (v := v3) (heap_setCell_same (off := 2) (v := v2) (heap_setCell_same (off := 1) (v := v1) (heap_setCell_same (off := 0) (v := v0) h)))))))
  simpa using h
end Go.Proofs.YtggcinmjmkfboaaDoor

/- What base.Expire makes of a base: plain. No program in sight. -/
namespace Go.Proofs.YtggcinmjmkfboaaDoor

end Go.Proofs.YtggcinmjmkfboaaDoor

/- The walks of slices.IndexFunc and slices.DeleteFunc at base.Expire's inner function. -/
namespace Go.Proofs.YtggcinmjmkfboaaDoor
open Go.RowKit

theorem flat_put {x : Ent} : ∀ {es : List Ent} {i : Nat} (_ : i < es.length), (es.set i x).flatMap enEnt =
    ((((((((es.flatMap enEnt).set (i * 7) (.int .i64 x.key)).set (i * 7 + 1) (.int .i64 x.is.c)).set (i * 7 + 2) (.int .i64 x.is.s)).set (i * 7 + 3) (.int .i64 x.is.mi)).set (i * 7 + 4) (.int .i64 x.is.ma)).set (i * 7 + 5) (.int .i64 x.is.t)).set (i * 7 + 6) (.int .i64 x.is.l))
  | [], i, hi => by simp at hi
  | e :: es, 0, _ => rfl
  | e :: es, i + 1, hi => by
    have ih := flat_put (x := x) (es := es) (i := i) (by simpa using hi)
    simp only [List.set_cons_succ, List.flatMap_cons]
    have e0 : (enEnt e ++ es.flatMap enEnt).set ((i + 1) * 7) (.int .i64 x.key) = enEnt e ++ (es.flatMap enEnt).set (i * 7) (.int .i64 x.key) := flat_set1 e _ i 0 _
    rw [e0, flat_set1, flat_set1, flat_set1, flat_set1, flat_set1, flat_set1, ih]
theorem OwnEnts.place {B : Nat} {w : World} {g cap n : Nat} {es : List Ent} {i : Nat} {x : Ent} (h : OwnEnts B w (.slice (some ⟨g, 0, none⟩) n cap) es) (hn : n = es.length) (hi : i < es.length) :
    OwnEnts B (((((((w.setCell ⟨g, i * 7, none⟩ (.int .i64 x.key)).setCell ⟨g, i * 7 + 1, none⟩ (.int .i64 x.is.c)).setCell ⟨g, i * 7 + 2, none⟩ (.int .i64 x.is.s)).setCell ⟨g, i * 7 + 3, none⟩ (.int .i64 x.is.mi)).setCell ⟨g, i * 7 + 4, none⟩ (.int .i64 x.is.ma)).setCell ⟨g, i * 7 + 5, none⟩ (.int .i64 x.is.t)).setCell ⟨g, i * 7 + 6, none⟩ (.int .i64 x.is.l)) (.slice (some ⟨g, 0, none⟩) n cap) (es.set i x) := by
  subst hn
  refine ⟨?_⟩
  rw [flat_put hi, List.length_set]
  exact (World.ownsRow.stored (World.ownsRow.stored (World.ownsRow.stored (World.ownsRow.stored (World.ownsRow.stored (World.ownsRow.stored (World.ownsRow.stored h.row _ _).1 _ _).1 _ _).1 _ _).1 _ _).1 _ _).1 _ _).1
end Go.Proofs.YtggcinmjmkfboaaDoor
