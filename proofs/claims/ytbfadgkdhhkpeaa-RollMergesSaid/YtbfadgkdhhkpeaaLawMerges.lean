/- The walk of the law RollMerges. -/
import Derived.Test.YtbfadgkdhhkpeaaMergeRef
namespace Go.Proofs.Ytbfadgkdhhkpeaa
open Go.RowKit

set_option maxHeartbeats 800000 in
theorem rollMerges_any (a b : Roll) (w : World) : Calls Try.prog 11 #[.agg #[.int .i64 a.c, .int .i64 a.s, .int .i64 a.mi, .int .i64 a.ma, .int .i64 a.t, .int .i64 a.l], .agg #[.int .i64 b.c, .int .i64 b.s, .int .i64 b.mi, .int .i64 b.ma, .int .i64 b.t, .int .i64 b.l]] w fun e w' => e = .returned (.bool true) ∧ Below w.heap.size w w' := by
  go_enter Try.func11, Try.ntmps11
  go_wp2_with (first
    | (go_at_call 33; refine (merge_any _ _ _).mono ?_; rintro e w1 ⟨rfl, hb1⟩; obtain ⟨k1, k2, k3⟩ := keep1 hb1 (B := w.heap.size) (by simp <;> omega); obtain ⟨k4, k5, k6⟩ := keep1 hb1 (B := w.heap.size + 1) (by simp))
    | (go_at_call 34; refine (refMerge_any _ _ _).mono ?_; rintro e w2 ⟨rfl, hb2⟩; obtain ⟨k7, k8, k9⟩ := keep1 hb2 (B := w1.heap.size) (by simp)))
  go_ret
  have hz1 := hb1.size
  have hz2 := hb2.size
  simp at hz1 hz2
  refine ⟨ret_bool (by simp), ?_⟩
  refine Below.alloc ?_ (by omega) _
  refine Below.trans ?_ (hb2.mono (by simp; omega))
  refine Below.alloc ?_ (by omega) _
  refine Below.trans ?_ (hb1.mono (by simp; omega))
  exact (by repeat (first | exact Below.refl _ _ | assumption | refine Below.drew ?_ | refine Below.alloc ?_ (by simp <;> omega) _ | refine Below.setCell ?_ (by simp <;> omega) _))
end Go.Proofs.Ytbfadgkdhhkpeaa
