/- The walk of roll.Of. -/
import Derived.Test.YtggcinmjmkfboaaRoll
namespace Go.Proofs.Ytggcinmjmkfboaa
open Go.RowKit

theorem of_any (t v : Int) (w : World) : Calls Try.prog 34 #[.int .i64 t, .int .i64 v] w fun e w' => e = .returned (.tuple #[(rollOf t v).1.v, .int .i64 (rollOf t v).2]) ∧ Below w.heap.size w w' := by
  by_cases h : 0 ≤ t ∧ t ≤ 1048575 ∧ -1000000 ≤ v ∧ v ≤ 1000000
  · have hr : rollOf t v = (⟨1, v, v, v, t, v⟩, 0) := by simp [rollOf, h]
    obtain ⟨h1, h2, h3⟩ := h
    rw [hr]
    have hw : within v 1000000 = true := within_true.2 h3
    clear hr
    go_enter Try.func34, Try.ntmps34
    go_wp2_with (go_at_call 35; refine (within_any _ _ _ (by omega) (by omega)).mono ?_; rintro e w' ⟨rfl, rfl⟩)
    exact bodyPost_ret (v := .tuple #[.agg #[.int .i64 1, .int .i64 v, .int .i64 v, .int .i64 v, .int .i64 t, .int .i64 v], .int .i64 0]) (by simp [results, Try.results34, go_sem]) rfl ⟨rfl, (by repeat (first | exact Below.refl _ _ | assumption | refine Below.drew ?_ | refine Below.alloc ?_ (by simp <;> omega) _ | refine Below.setCell ?_ (by simp <;> omega) _))⟩
  · have hr : rollOf t v = (Roll.zero, 2) := by simp [rollOf, h]
    rw [hr]
    have hw : (0 ≤ t ∧ t ≤ 1048575) → within v 1000000 = false := fun hh => within_false.2 (by omega)
    clear hr
    go_enter Try.func34, Try.ntmps34
    go_wp2_with (go_at_call 35; refine (within_any _ _ _ (by omega) (by omega)).mono ?_; rintro e w' ⟨rfl, rfl⟩; have hw1 := hw ⟨by omega, by omega⟩)
    all_goals exact bodyPost_ret (v := .tuple #[.agg #[.int .i64 0, .int .i64 0, .int .i64 0, .int .i64 0, .int .i64 0, .int .i64 0], .int .i64 2]) (by simp [results, Try.results34, go_sem]) rfl ⟨rfl, (by repeat (first | exact Below.refl _ _ | assumption | refine Below.drew ?_ | refine Below.alloc ?_ (by simp <;> omega) _ | refine Below.setCell ?_ (by simp <;> omega) _))⟩

end Go.Proofs.Ytggcinmjmkfboaa
