/- The laws on package roll: RollChecks, RollOfs: the walks of the laws themselves. -/
import Derived.Test.YtbfadgkdhhkpeaaRollB
namespace Go.Proofs.Ytbfadgkdhhkpeaa
open Go.RowKit

theorem rollChecks_any (r : Roll) (w : World) : Calls Try.prog 7 #[.agg #[.int .i64 r.c, .int .i64 r.s, .int .i64 r.mi, .int .i64 r.ma, .int .i64 r.t, .int .i64 r.l]] w fun e w' => e = .returned (.bool true) ∧ Below w.heap.size w w' := by
  go_enter Try.func7, Try.ntmps7
  go_wp2_with (first
    | (go_at_call 25; refine (check_any _ _).mono ?_; rintro e w' ⟨rfl, rfl⟩)
    | (go_at_call 26; refine (fault_any _ _).mono ?_; rintro e w' ⟨rfl, rfl⟩))
  go_ret
  exact ⟨by simp, (by repeat (first | exact Below.refl _ _ | assumption | refine Below.drew ?_ | refine Below.alloc ?_ (by simp <;> omega) _ | refine Below.setCell ?_ (by simp <;> omega) _))⟩

set_option maxHeartbeats 400000 in
theorem rollOfs_any (t v : Int) (w : World) : Calls Try.prog 5 #[.int .i64 t, .int .i64 v] w fun e w' => e = .returned (.bool true) ∧ Below w.heap.size w w' := by
  go_enter Try.func5, Try.ntmps5
  go_wp2_with (first
    | (go_at_call 21; refine (of_any _ _ _).mono ?_; rintro e w' ⟨rfl, hb1⟩)
    | (go_at_call 22; refine (refOf_any _ _ _).mono ?_; rintro e w2 ⟨rfl, hb2⟩; obtain ⟨hz2, hc2, hf2⟩ := keep1 hb2 (B := w'.heap.size) (by simp)))
  go_ret
  have hz1 := hb1.size
  refine ⟨ret_bool (by simp), (hb1.trans ?_).trans ((Below.refl _ _).alloc (by omega) _)⟩
  exact ((Below.refl _ _).alloc (by omega) _).trans (hb2.mono (by simp; omega))
end Go.Proofs.Ytbfadgkdhhkpeaa
