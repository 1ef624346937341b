/- Texts of mine that come as one: Roll RollB Merge MergeRef. -/
import Derived.Test.YtalnnghnipoogaaDoorKG
/- The walks of package roll and of its reference. -/
namespace Go.Proofs.YtalnnghnipoogaaDoor
open Go.RowKit

theorem within_any (n m : Int) (w : World) (h0 : 0 ≤ m) (h1 : m ≤ 1125899906842624) : Calls Tryd.prog 78 #[.int .i64 n, .int .i64 m] w fun e w' => e = .returned (.bool (within n m)) ∧ w = w' := by
  by_cases h : -m ≤ n
  · go_enter Tryd.func78, Tryd.ntmps78
    go_wp2
    go_ret
    simp [within, h]
  · go_enter Tryd.func78, Tryd.ntmps78
    go_wp2
    go_ret
    simp [within]; omega

set_option maxHeartbeats 1000000 in
theorem check_any (r : Roll) (w : World) : Calls Tryd.prog 81 #[.agg #[.int .i64 r.c, .int .i64 r.s, .int .i64 r.mi, .int .i64 r.ma, .int .i64 r.t, .int .i64 r.l]] w fun e w' => e = .returned (.int .i64 (rollCheck r)) ∧ w.alloc (.cells #[.int .i64 r.c, .int .i64 r.s, .int .i64 r.mi, .int .i64 r.ma, .int .i64 r.t, .int .i64 r.l] 55) = w' := by
  obtain ⟨c, s, mi, ma, t, l⟩ := r
  simp only
  go_enter Tryd.func81, Tryd.ntmps81
  go_wp2_with (go_at_call 78; refine (within_any _ _ _ (by omega) (by omega)).mono ?_; rintro e w' ⟨rfl, rfl⟩)
  all_goals (go_ret; refine ⟨ret_int ?_, by first | rfl | simp [*]⟩)
  all_goals (try simp only [within_true] at *)
  all_goals first
    | exact (rc2 (by simp only [Roll.ranged]; omega)).symm
    | exact (rc0z (by simp only [Roll.zero, Roll.mk.injEq]; omega)).symm
    | exact (rc4z (by simp only [Roll.ranged]; omega) (by simp only; omega) (by simp only [Roll.zero, ne_eq, Roll.mk.injEq]; omega)).symm
    | skip
  all_goals
    have m1 := mul_range (c := c) (m := mi) (by omega) (by omega) (by omega) (by omega)
    have m2 := mul_range (c := c) (m := ma) (by omega) (by omega) (by omega) (by omega)
    have e1 := IntWalk.wrap64_in (c * mi) ⟨by omega, by omega⟩
    have e2 := IntWalk.wrap64_in (c * ma) ⟨by omega, by omega⟩
    simp only [e1, e2] at *
    first
    | exact (rc0 (by simp only [Roll.ranged]; omega) (by simp only; omega) (by simp only [Roll.formed]; omega)).symm
    | exact (rc4 (by simp only [Roll.ranged]; omega) (by simp only; omega) (by simp only [Roll.formed]; omega)).symm

end Go.Proofs.YtalnnghnipoogaaDoor

/- The walk of roll.Of. -/
namespace Go.Proofs.YtalnnghnipoogaaDoor
open Go.RowKit

theorem of_any (t v : Int) (w : World) : Calls Tryd.prog 36 #[.int .i64 t, .int .i64 v] w fun e w' => e = .returned (.tuple #[(rollOf t v).1.v, .int .i64 (rollOf t v).2]) ∧ Below w.heap.size w w' := by
  by_cases h : 0 ≤ t ∧ t ≤ 1048575 ∧ -1000000 ≤ v ∧ v ≤ 1000000
  · have hr : rollOf t v = (⟨1, v, v, v, t, v⟩, 0) := by simp [rollOf, h]
    obtain ⟨h1, h2, h3⟩ := h
    rw [hr]
    have hw : within v 1000000 = true := within_true.2 h3
    clear hr
    go_enter Tryd.func36, Tryd.ntmps36
    go_wp2_with (go_at_call 78; refine (within_any _ _ _ (by omega) (by omega)).mono ?_; rintro e w' ⟨rfl, rfl⟩)
    exact bodyPost_ret (v := .tuple #[.agg #[.int .i64 1, .int .i64 v, .int .i64 v, .int .i64 v, .int .i64 t, .int .i64 v], .int .i64 0]) (by simp [results, Tryd.results36, go_sem]) rfl ⟨rfl, (by repeat (first | exact Below.refl _ _ | assumption | refine Below.drew ?_ | refine Below.alloc ?_ (by simp <;> omega) _ | refine Below.setCell ?_ (by simp <;> omega) _))⟩
  · have hr : rollOf t v = (Roll.zero, 2) := by simp [rollOf, h]
    rw [hr]
    have hw : (0 ≤ t ∧ t ≤ 1048575) → within v 1000000 = false := fun hh => within_false.2 (by omega)
    clear hr
    go_enter Tryd.func36, Tryd.ntmps36
    go_wp2_with (go_at_call 78; refine (within_any _ _ _ (by omega) (by omega)).mono ?_; rintro e w' ⟨rfl, rfl⟩; have hw1 := hw ⟨by omega, by omega⟩)
    all_goals exact bodyPost_ret (v := .tuple #[.agg #[.int .i64 0, .int .i64 0, .int .i64 0, .int .i64 0, .int .i64 0, .int .i64 0], .int .i64 2]) (by simp [results, Tryd.results36, go_sem]) rfl ⟨rfl, (by repeat (first | exact Below.refl _ _ | assumption | refine Below.drew ?_ | refine Below.alloc ?_ (by simp <;> omega) _ | refine Below.setCell ?_ (by simp <;> omega) _))⟩

end Go.Proofs.YtalnnghnipoogaaDoor

/- The walks of roll.Merge and of its reference. -/
namespace Go.Proofs.YtalnnghnipoogaaDoor
open Go.RowKit

theorem merge_bad1 {a b : Roll} (h : rollCheck a ≠ 0) : rollMerge a b = (Roll.zero, rollCheck a) := by simp [rollMerge, h]
theorem merge_bad2 {a b : Roll} (h : rollCheck a = 0) (h2 : rollCheck b ≠ 0) : rollMerge a b = (Roll.zero, rollCheck b) := by simp [rollMerge, h, h2]
theorem check_zero {a : Roll} (h : rollCheck a = 0) : a.ranged := by
  unfold rollCheck at h
  split at h
  · assumption
  · cases h
theorem check_zero_c {a : Roll} (h : rollCheck a = 0) (hc : a.c = 0) : a = Roll.zero := by
  have hr := check_zero h
  unfold rollCheck at h
  rw [if_pos hr, if_pos hc] at h
  by_cases hz : a = Roll.zero
  · exact hz
  · rw [if_neg hz] at h; cases h
theorem merge_a0 {a b : Roll} (h : rollCheck a = 0) (h2 : rollCheck b = 0) (h3 : a.c = 0) : rollMerge a b = (b, 0) := by
  by_cases h4 : b.c = 0
  · rw [check_zero_c h h3, check_zero_c h2 h4]; decide
  · simp [rollMerge, h, h2, h3, Roll.join, h4]
theorem merge_b0 {a b : Roll} (h : rollCheck a = 0) (h2 : rollCheck b = 0) (h3 : b.c = 0) : rollMerge a b = (a, 0) := by
  simp [rollMerge, h, h2, h3, Roll.join]
theorem merge_many {a b : Roll} (h : rollCheck a = 0) (h2 : rollCheck b = 0) (h3 : a.c ≠ 0) (h4 : b.c ≠ 0) (h5 : a.c + b.c > 1073741824 ∨ within (a.s + b.s) 1125899906842624 = false) : rollMerge a b = (Roll.zero, 1) := by
  simp [rollMerge, h, h2, h3, h4, h5]
theorem merge_join {a b : Roll} (h : rollCheck a = 0) (h2 : rollCheck b = 0) (h3 : a.c ≠ 0) (h4 : b.c ≠ 0) (h5 : a.c + b.c ≤ 1073741824) (h6 : within (a.s + b.s) 1125899906842624 = true) : rollMerge a b = (a.join b, 0) := by
  have : ¬ (a.c + b.c > 1073741824 ∨ within (a.s + b.s) 1125899906842624 = false) := by simp [h6]; omega
  simp [rollMerge, h, h2, h3, h4, this]
def newer (a b : Roll) : Prop := a.t < b.t ∨ (a.t = b.t ∧ a.l < b.l)
theorem join_new {a b : Roll} (h3 : a.c ≠ 0) (h4 : b.c ≠ 0) (h : newer a b) : a.join b = ⟨a.c + b.c, a.s + b.s, min a.mi b.mi, max a.ma b.ma, b.t, b.l⟩ := by
  unfold newer at h
  simp only [Roll.join, h3, h4, if_false, h, if_true]
theorem join_old {a b : Roll} (h3 : a.c ≠ 0) (h4 : b.c ≠ 0) (h : ¬ newer a b) : a.join b = ⟨a.c + b.c, a.s + b.s, min a.mi b.mi, max a.ma b.ma, a.t, a.l⟩ := by
  unfold newer at h
  simp only [Roll.join, h3, h4, if_false, h]

set_option maxHeartbeats 1000000 in
theorem merge_early (a b : Roll) (w : World) (h : rollCheck a ≠ 0 ∨ rollCheck b ≠ 0 ∨ a.c = 0 ∨ b.c = 0) : Calls Tryd.prog 55 #[.agg #[.int .i64 a.c, .int .i64 a.s, .int .i64 a.mi, .int .i64 a.ma, .int .i64 a.t, .int .i64 a.l], .agg #[.int .i64 b.c, .int .i64 b.s, .int .i64 b.mi, .int .i64 b.ma, .int .i64 b.t, .int .i64 b.l]] w fun e w' => e = .returned (.tuple #[(rollMerge a b).1.v, .int .i64 (rollMerge a b).2]) ∧ Below w.heap.size w w' := by
  by_cases h1 : rollCheck a = 0
  · by_cases h2 : rollCheck b = 0
    · by_cases h3 : a.c = 0
      · rw [merge_a0 h1 h2 h3]
        have h1' : (rollCheck a != 0) = false := by simp [h1]
        have h2' : (rollCheck b != 0) = false := by simp [h2]
        have h3' : (a.c == 0) = true := by simp [h3]
        clear h h1 h2 h3
        go_enter Tryd.func55, Tryd.ntmps55
        go_wp2_with (go_at_call 81; refine (check_any _ _).mono ?_; rintro e w1 ⟨rfl, rfl⟩)
        exact bodyPost_ret (v := .tuple #[.agg #[.int .i64 b.c, .int .i64 b.s, .int .i64 b.mi, .int .i64 b.ma, .int .i64 b.t, .int .i64 b.l], .int .i64 0]) (by simp [results, Tryd.results55, go_sem]) rfl ⟨rfl, (by repeat (first | exact Below.refl _ _ | assumption | refine Below.drew ?_ | refine Below.alloc ?_ (by simp <;> omega) _ | refine Below.setCell ?_ (by simp <;> omega) _))⟩
      · have h4 : b.c = 0 := by omega
        rw [merge_b0 h1 h2 h4]
        have h1' : (rollCheck a != 0) = false := by simp [h1]
        have h2' : (rollCheck b != 0) = false := by simp [h2]
        have h3' : (a.c == 0) = false := by simp [h3]
        have h4' : (b.c == 0) = true := by simp [h4]
        clear h h1 h2 h3 h4
        go_enter Tryd.func55, Tryd.ntmps55
        go_wp2_with (go_at_call 81; refine (check_any _ _).mono ?_; rintro e w1 ⟨rfl, rfl⟩)
        exact bodyPost_ret (v := .tuple #[.agg #[.int .i64 a.c, .int .i64 a.s, .int .i64 a.mi, .int .i64 a.ma, .int .i64 a.t, .int .i64 a.l], .int .i64 0]) (by simp [results, Tryd.results55, go_sem]) rfl ⟨rfl, (by repeat (first | exact Below.refl _ _ | assumption | refine Below.drew ?_ | refine Below.alloc ?_ (by simp <;> omega) _ | refine Below.setCell ?_ (by simp <;> omega) _))⟩
    · rw [merge_bad2 h1 h2]
      have h1' : (rollCheck a != 0) = false := by simp [h1]
      have h2' : (rollCheck b != 0) = true := by simp [h2]
      clear h h1 h2
      go_enter Tryd.func55, Tryd.ntmps55
      go_wp2_with (go_at_call 81; refine (check_any _ _).mono ?_; rintro e w1 ⟨rfl, rfl⟩)
      exact bodyPost_ret (v := .tuple #[.agg #[.int .i64 0, .int .i64 0, .int .i64 0, .int .i64 0, .int .i64 0, .int .i64 0], .int .i64 (rollCheck b)]) (by simp [results, Tryd.results55, go_sem]) rfl ⟨rfl, (by repeat (first | exact Below.refl _ _ | assumption | refine Below.drew ?_ | refine Below.alloc ?_ (by simp <;> omega) _ | refine Below.setCell ?_ (by simp <;> omega) _))⟩
  · rw [merge_bad1 h1]
    have h1' : (rollCheck a != 0) = true := by simp [h1]
    clear h h1
    go_enter Tryd.func55, Tryd.ntmps55
    go_wp2_with (go_at_call 81; refine (check_any _ _).mono ?_; rintro e w1 ⟨rfl, rfl⟩)
    exact bodyPost_ret (v := .tuple #[.agg #[.int .i64 0, .int .i64 0, .int .i64 0, .int .i64 0, .int .i64 0, .int .i64 0], .int .i64 (rollCheck a)]) (by simp [results, Tryd.results55, go_sem]) rfl ⟨rfl, (by repeat (first | exact Below.refl _ _ | assumption | refine Below.drew ?_ | refine Below.alloc ?_ (by simp <;> omega) _ | refine Below.setCell ?_ (by simp <;> omega) _))⟩

set_option maxHeartbeats 1000000 in
theorem merge_late (a b : Roll) (w : World) (h1 : rollCheck a = 0) (h2 : rollCheck b = 0) (h3 : a.c ≠ 0) (h4 : b.c ≠ 0) : Calls Tryd.prog 55 #[.agg #[.int .i64 a.c, .int .i64 a.s, .int .i64 a.mi, .int .i64 a.ma, .int .i64 a.t, .int .i64 a.l], .agg #[.int .i64 b.c, .int .i64 b.s, .int .i64 b.mi, .int .i64 b.ma, .int .i64 b.t, .int .i64 b.l]] w fun e w' => e = .returned (.tuple #[(rollMerge a b).1.v, .int .i64 (rollMerge a b).2]) ∧ Below w.heap.size w w' := by
  have ra := check_zero h1
  have rb := check_zero h2
  unfold Roll.ranged at ra rb
  obtain ⟨ra1, ra2, ra3, ra4, -⟩ := ra
  obtain ⟨rb1, rb2, rb3, rb4, -⟩ := rb
  have h1' : (rollCheck a != 0) = false := by simp [h1]
  have h2' : (rollCheck b != 0) = false := by simp [h2]
  have h3' : (a.c == 0) = false := by simp [h3]
  have h4' : (b.c == 0) = false := by simp [h4]
  by_cases h5 : a.c + b.c > 1073741824
  · rw [merge_many h1 h2 h3 h4 (.inl h5)]
    clear h1 h2 h3 h4
    go_enter Tryd.func55, Tryd.ntmps55
    go_wp2_with (go_at_call 81; refine (check_any _ _).mono ?_; rintro e w1 ⟨rfl, rfl⟩)
    exact bodyPost_ret (v := .tuple #[.agg #[.int .i64 0, .int .i64 0, .int .i64 0, .int .i64 0, .int .i64 0, .int .i64 0], .int .i64 1]) (by simp [results, Tryd.results55, go_sem]) rfl ⟨rfl, (by repeat (first | exact Below.refl _ _ | assumption | refine Below.drew ?_ | refine Below.alloc ?_ (by simp <;> omega) _ | refine Below.setCell ?_ (by simp <;> omega) _))⟩
  · have h5' : a.c + b.c ≤ 1073741824 := by omega
    clear h5
    cases h6 : within (a.s + b.s) 1125899906842624
    · rw [merge_many h1 h2 h3 h4 (.inr h6)]
      clear h1 h2 h3 h4
      go_enter Tryd.func55, Tryd.ntmps55
      go_wp2_with (first
        | (go_at_call 78; refine (within_any _ _ _ (by omega) (by omega)).mono ?_; rintro e w' ⟨rfl, rfl⟩)
        | (go_at_call 81; refine (check_any _ _).mono ?_; rintro e w1 ⟨rfl, rfl⟩))
      exact bodyPost_ret (v := .tuple #[.agg #[.int .i64 0, .int .i64 0, .int .i64 0, .int .i64 0, .int .i64 0, .int .i64 0], .int .i64 1]) (by simp [results, Tryd.results55, go_sem]) rfl ⟨rfl, (by repeat (first | exact Below.refl _ _ | assumption | refine Below.drew ?_ | refine Below.alloc ?_ (by simp <;> omega) _ | refine Below.setCell ?_ (by simp <;> omega) _))⟩
    · rw [merge_join h1 h2 h3 h4 h5' h6]
      have hcase : a.t < b.t ∨ (a.t = b.t ∧ a.l < b.l) ∨ (a.t = b.t ∧ b.l ≤ a.l) ∨ b.t < a.t := by omega
      rcases hcase with h7 | ⟨h7, h8⟩ | ⟨h7, h8⟩ | h7
      · rw [join_new h3 h4 (.inl h7)]
        clear h1 h2 h3 h4
        go_enter Tryd.func55, Tryd.ntmps55
        go_wp2_with (first
          | (go_at_call 78; refine (within_any _ _ _ (by omega) (by omega)).mono ?_; rintro e w' ⟨rfl, rfl⟩)
          | (go_at_call 81; refine (check_any _ _).mono ?_; rintro e w1 ⟨rfl, rfl⟩))
        go_region
        all_goals go_wp2
        all_goals exact bodyPost_ret (v := .tuple #[.agg #[.int .i64 (a.c + b.c), .int .i64 (a.s + b.s), .int .i64 (min a.mi b.mi), .int .i64 (max a.ma b.ma), .int .i64 b.t, .int .i64 b.l], .int .i64 0]) (by simp [results, Tryd.results55, go_sem]) rfl ⟨rfl, (by repeat (first | exact Below.refl _ _ | assumption | refine Below.drew ?_ | refine Below.alloc ?_ (by simp <;> omega) _ | refine Below.setCell ?_ (by simp <;> omega) _))⟩
      · rw [join_new h3 h4 (.inr ⟨h7, h8⟩)]
        have h7' : (b.t == a.t) = true := by simp [h7]
        have h7'' : ¬ a.t < b.t := by omega
        clear h1 h2 h3 h4 h7
        go_enter Tryd.func55, Tryd.ntmps55
        go_wp2_with (first
          | (go_at_call 78; refine (within_any _ _ _ (by omega) (by omega)).mono ?_; rintro e w' ⟨rfl, rfl⟩)
          | (go_at_call 81; refine (check_any _ _).mono ?_; rintro e w1 ⟨rfl, rfl⟩))
        go_region
        all_goals go_wp2
        all_goals exact bodyPost_ret (v := .tuple #[.agg #[.int .i64 (a.c + b.c), .int .i64 (a.s + b.s), .int .i64 (min a.mi b.mi), .int .i64 (max a.ma b.ma), .int .i64 b.t, .int .i64 b.l], .int .i64 0]) (by simp [results, Tryd.results55, go_sem]) rfl ⟨rfl, (by repeat (first | exact Below.refl _ _ | assumption | refine Below.drew ?_ | refine Below.alloc ?_ (by simp <;> omega) _ | refine Below.setCell ?_ (by simp <;> omega) _))⟩
      · rw [join_old h3 h4 (by unfold newer; omega)]
        have h7' : (b.t == a.t) = true := by simp [h7]
        have h7'' : ¬ a.t < b.t := by omega
        clear h1 h2 h3 h4 h7
        go_enter Tryd.func55, Tryd.ntmps55
        go_wp2_with (first
          | (go_at_call 78; refine (within_any _ _ _ (by omega) (by omega)).mono ?_; rintro e w' ⟨rfl, rfl⟩)
          | (go_at_call 81; refine (check_any _ _).mono ?_; rintro e w1 ⟨rfl, rfl⟩))
        exact bodyPost_ret (v := .tuple #[.agg #[.int .i64 (a.c + b.c), .int .i64 (a.s + b.s), .int .i64 (min a.mi b.mi), .int .i64 (max a.ma b.ma), .int .i64 a.t, .int .i64 a.l], .int .i64 0]) (by simp [results, Tryd.results55, go_sem]) rfl ⟨rfl, (by repeat (first | exact Below.refl _ _ | assumption | refine Below.drew ?_ | refine Below.alloc ?_ (by simp <;> omega) _ | refine Below.setCell ?_ (by simp <;> omega) _))⟩
      · rw [join_old h3 h4 (by unfold newer; omega)]
        have h7' : (b.t == a.t) = false := by simp; omega
        clear h1 h2 h3 h4
        go_enter Tryd.func55, Tryd.ntmps55
        go_wp2_with (first
          | (go_at_call 78; refine (within_any _ _ _ (by omega) (by omega)).mono ?_; rintro e w' ⟨rfl, rfl⟩)
          | (go_at_call 81; refine (check_any _ _).mono ?_; rintro e w1 ⟨rfl, rfl⟩))
        exact bodyPost_ret (v := .tuple #[.agg #[.int .i64 (a.c + b.c), .int .i64 (a.s + b.s), .int .i64 (min a.mi b.mi), .int .i64 (max a.ma b.ma), .int .i64 a.t, .int .i64 a.l], .int .i64 0]) (by simp [results, Tryd.results55, go_sem]) rfl ⟨rfl, (by repeat (first | exact Below.refl _ _ | assumption | refine Below.drew ?_ | refine Below.alloc ?_ (by simp <;> omega) _ | refine Below.setCell ?_ (by simp <;> omega) _))⟩

theorem merge_any (a b : Roll) (w : World) : Calls Tryd.prog 55 #[.agg #[.int .i64 a.c, .int .i64 a.s, .int .i64 a.mi, .int .i64 a.ma, .int .i64 a.t, .int .i64 a.l], .agg #[.int .i64 b.c, .int .i64 b.s, .int .i64 b.mi, .int .i64 b.ma, .int .i64 b.t, .int .i64 b.l]] w fun e w' => e = .returned (.tuple #[(rollMerge a b).1.v, .int .i64 (rollMerge a b).2]) ∧ Below w.heap.size w w' := by
  by_cases h : rollCheck a ≠ 0 ∨ rollCheck b ≠ 0 ∨ a.c = 0 ∨ b.c = 0
  · exact merge_early a b w h
  · simp only [not_or, ne_eq, Decidable.not_not] at h
    exact merge_late a b w h.1 h.2.1 h.2.2.1 h.2.2.2
end Go.Proofs.YtalnnghnipoogaaDoor

/- The walk of the reference's MergedOf. -/
namespace Go.Proofs.YtalnnghnipoogaaDoor
open Go.RowKit

abbrev rc (r : Roll) : Obj := .cells #[.int .i64 r.c, .int .i64 r.s, .int .i64 r.mi, .int .i64 r.ma, .int .i64 r.t, .int .i64 r.l] 55

end Go.Proofs.YtalnnghnipoogaaDoor
