/- The walks of package roll and of its reference. -/
import Derived.Test.YtggcinmjmkfboaaKG
namespace Go.Proofs.Ytggcinmjmkfboaa
open Go.RowKit

theorem within_any (n m : Int) (w : World) (h0 : 0 ≤ m) (h1 : m ≤ 1125899906842624) : Calls Try.prog 35 #[.int .i64 n, .int .i64 m] w fun e w' => e = .returned (.bool (within n m)) ∧ w = w' := by
  by_cases h : -m ≤ n
  · go_enter Try.func35, Try.ntmps35
    go_wp2
    go_ret
    simp [within, h]
  · go_enter Try.func35, Try.ntmps35
    go_wp2
    go_ret
    simp [within]; omega

theorem in_any (n l h : Int) (w : World) : Calls Try.prog 16 #[.int .i64 n, .int .i64 l, .int .i64 h] w fun e w' => e = .returned (.bool (inR n l h)) ∧ w = w' := by
  by_cases h' : l ≤ n
  · go_enter Try.func16, Try.ntmps16
    go_wp2
    go_ret
    simp [inR, h']
  · go_enter Try.func16, Try.ntmps16
    go_wp2
    go_ret
    simp [inR]; omega

set_option maxHeartbeats 1000000 in
theorem check_any (r : Roll) (w : World) : Calls Try.prog 30 #[.agg #[.int .i64 r.c, .int .i64 r.s, .int .i64 r.mi, .int .i64 r.ma, .int .i64 r.t, .int .i64 r.l]] w fun e w' => e = .returned (.int .i64 (rollCheck r)) ∧ w.alloc (.cells #[.int .i64 r.c, .int .i64 r.s, .int .i64 r.mi, .int .i64 r.ma, .int .i64 r.t, .int .i64 r.l] 38) = w' := by
  obtain ⟨c, s, mi, ma, t, l⟩ := r
  simp only
  go_enter Try.func30, Try.ntmps30
  go_wp2_with (go_at_call 35; refine (within_any _ _ _ (by omega) (by omega)).mono ?_; rintro e w' ⟨rfl, rfl⟩)
  all_goals (go_ret; refine ⟨ret_int ?_, by first | rfl | simp [*]⟩)
  all_goals (try simp only [within_true] at *)
  all_goals first
    | exact (rc2 (by simp only [Roll.ranged]; omega)).symm
    | exact (rc0z (by simp only [Roll.zero, Roll.mk.injEq]; omega)).symm
    | exact (rc4z (by simp only [Roll.ranged]; omega) (by simp only; omega) (by simp only [Roll.zero, ne_eq, Roll.mk.injEq]; omega)).symm
    | skip
  all_goals
    have m1 := mul_range (c := c) (m := mi) (by omega) (by omega) (by omega) (by omega)
    have m2 := mul_range (c := c) (m := ma) (by omega) (by omega) (by omega) (by omega)
    have e1 := IntWalk.wrap64_in (c * mi) ⟨by omega, by omega⟩
    have e2 := IntWalk.wrap64_in (c * ma) ⟨by omega, by omega⟩
    simp only [e1, e2] at *
    first
    | exact (rc0 (by simp only [Roll.ranged]; omega) (by simp only; omega) (by simp only [Roll.formed]; omega)).symm
    | exact (rc4 (by simp only [Roll.ranged]; omega) (by simp only; omega) (by simp only [Roll.formed]; omega)).symm

set_option maxHeartbeats 1000000 in
theorem fault_any (r : Roll) (w : World) : Calls Try.prog 17 #[.agg #[.int .i64 r.c, .int .i64 r.s, .int .i64 r.mi, .int .i64 r.ma, .int .i64 r.t, .int .i64 r.l]] w fun e w' => e = .returned (.int .i64 (rollCheck r)) ∧ w.alloc (.cells #[.int .i64 r.c, .int .i64 r.s, .int .i64 r.mi, .int .i64 r.ma, .int .i64 r.t, .int .i64 r.l] 38) = w' := by
  obtain ⟨c, s, mi, ma, t, l⟩ := r
  simp only
  go_enter Try.func17, Try.ntmps17
  go_wp2_with (go_at_call 16; refine (in_any _ _ _ _).mono ?_; rintro e w' ⟨rfl, rfl⟩)
  all_goals (go_ret; refine ⟨ret_int ?_, by first | rfl | simp [*]⟩)
  all_goals (try simp only [Bool.not_eq_true', Bool.not_eq_false', beq_iff_eq, beq_eq_false_iff_ne, bne_iff_ne, bne_eq_false_iff_eq, ne_eq, inR_true, inR_false] at *)
  all_goals first
    | exact (rc2 (by simp only [Roll.ranged]; omega)).symm
    | exact (rc0z (by simp only [Roll.zero, Roll.mk.injEq]; omega)).symm
    | exact (rc4z (by simp only [Roll.ranged]; omega) (by simp only; omega) (by simp only [Roll.zero, ne_eq, Roll.mk.injEq]; omega)).symm
    | skip
  all_goals
    have m1 := mul_range (c := c) (m := mi) (by omega) (by omega) (by omega) (by omega)
    have m2 := mul_range (c := c) (m := ma) (by omega) (by omega) (by omega) (by omega)
    have e1 := IntWalk.wrap64_in (c * mi) ⟨by omega, by omega⟩
    have e2 := IntWalk.wrap64_in (c * ma) ⟨by omega, by omega⟩
    simp only [e1, e2] at *
    first
    | exact (rc0 (by simp only [Roll.ranged]; omega) (by simp only; omega) (by simp only [Roll.formed]; omega)).symm
    | exact (rc4 (by simp only [Roll.ranged]; omega) (by simp only; omega) (by simp only [Roll.formed]; omega)).symm
end Go.Proofs.Ytggcinmjmkfboaa
