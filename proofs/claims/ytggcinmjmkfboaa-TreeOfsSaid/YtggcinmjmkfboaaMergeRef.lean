/- The walk of the reference's MergedOf. -/
import Derived.Test.YtggcinmjmkfboaaMerge
namespace Go.Proofs.Ytggcinmjmkfboaa
open Go.RowKit

abbrev rc (r : Roll) : Obj := .cells #[.int .i64 r.c, .int .i64 r.s, .int .i64 r.mi, .int .i64 r.ma, .int .i64 r.t, .int .i64 r.l] 38

set_option maxHeartbeats 1000000 in
theorem refMerge_early (a b : Roll) (w : World) (h : rollCheck a ≠ 0 ∨ rollCheck b ≠ 0 ∨ a.c = 0 ∨ b.c = 0) : Calls Try.prog 44 #[.agg #[.int .i64 a.c, .int .i64 a.s, .int .i64 a.mi, .int .i64 a.ma, .int .i64 a.t, .int .i64 a.l], .agg #[.int .i64 b.c, .int .i64 b.s, .int .i64 b.mi, .int .i64 b.ma, .int .i64 b.t, .int .i64 b.l]] w fun e w' => e = .returned (.tuple #[(rollMerge a b).1.v, .int .i64 (rollMerge a b).2]) ∧ Below w.heap.size w w' := by
  by_cases h1 : rollCheck a = 0
  · by_cases h2 : rollCheck b = 0
    · by_cases h3 : b.c = 0
      · rw [merge_b0 h1 h2 h3]
        have h1' : (rollCheck a == 0) = true := by simp [h1]
        have h2' : (rollCheck b != 0) = false := by simp [h2]
        have h3' : (b.c == 0) = true := by simp [h3]
        clear h h1 h2 h3
        go_enter Try.func44, Try.ntmps44
        go_wp2_with (go_at_call 17; refine (fault_any _ _).mono ?_; rintro e w1 ⟨rfl, rfl⟩)
        exact bodyPost_ret (v := .tuple #[.agg #[.int .i64 a.c, .int .i64 a.s, .int .i64 a.mi, .int .i64 a.ma, .int .i64 a.t, .int .i64 a.l], .int .i64 0]) (by simp [results, Try.results44, go_sem]) rfl ⟨rfl, (by repeat (first | exact Below.refl _ _ | assumption | refine Below.drew ?_ | refine Below.alloc ?_ (by simp <;> omega) _ | refine Below.setCell ?_ (by simp <;> omega) _))⟩
      · have h4 : a.c = 0 := by omega
        rw [merge_a0 h1 h2 h4]
        have h1' : (rollCheck a == 0) = true := by simp [h1]
        have h2' : (rollCheck b != 0) = false := by simp [h2]
        have h3' : (b.c == 0) = false := by simp [h3]
        have h4' : (a.c == 0) = true := by simp [h4]
        clear h h1 h2 h3 h4
        go_enter Try.func44, Try.ntmps44
        go_wp2_with (go_at_call 17; refine (fault_any _ _).mono ?_; rintro e w1 ⟨rfl, rfl⟩)
        exact bodyPost_ret (v := .tuple #[.agg #[.int .i64 b.c, .int .i64 b.s, .int .i64 b.mi, .int .i64 b.ma, .int .i64 b.t, .int .i64 b.l], .int .i64 0]) (by simp [results, Try.results44, go_sem]) rfl ⟨rfl, (by repeat (first | exact Below.refl _ _ | assumption | refine Below.drew ?_ | refine Below.alloc ?_ (by simp <;> omega) _ | refine Below.setCell ?_ (by simp <;> omega) _))⟩
    · rw [merge_bad2 h1 h2]
      have h1' : (rollCheck a == 0) = true := by simp [h1]
      have h2' : (rollCheck b != 0) = true := by simp [h2]
      clear h h1 h2
      go_enter Try.func44, Try.ntmps44
      go_wp2_with (go_at_call 17; refine (fault_any _ _).mono ?_; rintro e w1 ⟨rfl, rfl⟩)
      exact bodyPost_ret (v := .tuple #[.agg #[.int .i64 0, .int .i64 0, .int .i64 0, .int .i64 0, .int .i64 0, .int .i64 0], .int .i64 (rollCheck b)]) (by simp [results, Try.results44, go_sem]) rfl ⟨rfl, (by repeat (first | exact Below.refl _ _ | assumption | refine Below.drew ?_ | refine Below.alloc ?_ (by simp <;> omega) _ | refine Below.setCell ?_ (by simp <;> omega) _))⟩
  · rw [merge_bad1 h1]
    have h1' : (rollCheck a == 0) = false := by simp [h1]
    have h1'' : (rollCheck a != 0) = true := by simp [h1]
    clear h h1
    go_enter Try.func44, Try.ntmps44
    go_wp2_with (go_at_call 17; refine (fault_any _ _).mono ?_; rintro e w1 ⟨rfl, rfl⟩)
    exact bodyPost_ret (v := .tuple #[.agg #[.int .i64 0, .int .i64 0, .int .i64 0, .int .i64 0, .int .i64 0, .int .i64 0], .int .i64 (rollCheck a)]) (by simp [results, Try.results44, go_sem]) rfl ⟨rfl, (by repeat (first | exact Below.refl _ _ | assumption | refine Below.drew ?_ | refine Below.alloc ?_ (by simp <;> omega) _ | refine Below.setCell ?_ (by simp <;> omega) _))⟩

set_option maxHeartbeats 1000000 in
set_option maxRecDepth 100000 in
theorem refMerge_late (a b : Roll) (w : World) (h1 : rollCheck a = 0) (h2 : rollCheck b = 0) (h3 : a.c ≠ 0) (h4 : b.c ≠ 0) : Calls Try.prog 44 #[.agg #[.int .i64 a.c, .int .i64 a.s, .int .i64 a.mi, .int .i64 a.ma, .int .i64 a.t, .int .i64 a.l], .agg #[.int .i64 b.c, .int .i64 b.s, .int .i64 b.mi, .int .i64 b.ma, .int .i64 b.t, .int .i64 b.l]] w fun e w' => e = .returned (.tuple #[(rollMerge a b).1.v, .int .i64 (rollMerge a b).2]) ∧ Below w.heap.size w w' := by
  have ra := check_zero h1
  have rb := check_zero h2
  unfold Roll.ranged at ra rb
  obtain ⟨ra1, ra2, ra3, ra4, -⟩ := ra
  obtain ⟨rb1, rb2, rb3, rb4, -⟩ := rb
  have h1' : (rollCheck a == 0) = true := by simp [h1]
  have h2' : (rollCheck b != 0) = false := by simp [h2]
  have h3' : (a.c == 0) = false := by simp [h3]
  have h4' : (b.c == 0) = false := by simp [h4]
  obtain ⟨T, hT⟩ : ∃ T, (if a.t < b.t ∨ (a.t = b.t ∧ a.l < b.l) then b.t else a.t) = T := ⟨_, rfl⟩
  obtain ⟨L, hL⟩ : ∃ L, (if a.t < b.t ∨ (a.t = b.t ∧ a.l < b.l) then b.l else a.l) = L := ⟨_, rfl⟩
  have hj : a.join b = ⟨a.c + b.c, a.s + b.s, min a.mi b.mi, max a.ma b.ma, T, L⟩ := by simp [Roll.join, h3, h4, hT, hL]
  have hres : rollMerge a b = if a.c + b.c > 1073741824 ∨ within (a.s + b.s) 1125899906842624 = false then (Roll.zero, 1) else (⟨a.c + b.c, a.s + b.s, min a.mi b.mi, max a.ma b.ma, T, L⟩, 0) := by
    simp [rollMerge, h1, h2, h3, h4, hj]
  obtain ⟨X, hX⟩ : ∃ X, rollMerge a b = X := ⟨_, rfl⟩
  rw [hX]
  rw [hres] at hX
  have HX := Lib.hid hX
  obtain ⟨nb, hnb⟩ : ∃ nb : Bool, decide (a.t < b.t ∨ (a.t = b.t ∧ a.l < b.l)) = nb := ⟨_, rfl⟩
  have HN := Lib.hid hnb
  have HT := Lib.hid hT
  have HL := Lib.hid hL
  clear h1 h2 h3 h4 hT hL hj hres hnb hX
  go_enter Try.func44, Try.ntmps44
  go_upto_if 43 with (go_at_call 17; refine (fault_any _ _).mono ?_; rintro e w1 ⟨rfl, rfl⟩)
  go_cut [] (fun wx => wx = (((((w.alloc (rc a)).alloc (rc b)).alloc (rc Roll.zero)).alloc (rc a)).alloc (rc b)).alloc (rc ⟨a.c + b.c, a.s + b.s, min a.mi b.mi, a.ma, a.t, a.l⟩))
  case first =>
    go_wp2
    all_goals go_meet
    all_goals first | (rw [show min a.mi b.mi = b.mi from by omega]; rfl) | (rw [show min a.mi b.mi = a.mi from by omega]; rfl)
  simp only [rc, Roll.zero] at hcut
  subst hcut
  go_upto_if 51 with (fail)
  go_cut [] (fun wx => wx = (((((w.alloc (rc a)).alloc (rc b)).alloc (rc Roll.zero)).alloc (rc a)).alloc (rc b)).alloc (rc ⟨a.c + b.c, a.s + b.s, min a.mi b.mi, max a.ma b.ma, a.t, a.l⟩))
  case first =>
    go_wp2
    all_goals go_meet
    all_goals first | (rw [show max a.ma b.ma = b.ma from by omega]; rfl) | (rw [show max a.ma b.ma = a.ma from by omega]; rfl)
  simp only [rc, Roll.zero] at hcut
  subst hcut
  go_upto_region 17 with (fail)
  go_cut [73] (fun c wx => c = .bool nb ∧ wx = (((((w.alloc (rc a)).alloc (rc b)).alloc (rc Roll.zero)).alloc (rc a)).alloc (rc b)).alloc (rc ⟨a.c + b.c, a.s + b.s, min a.mi b.mi, max a.ma b.ma, a.t, a.l⟩))
  case first =>
    by_cases hq : a.t < b.t
    · go_wp2
      go_meet
      exact ⟨by rw [← HN.out]; simp [hq], rfl⟩
    · by_cases hq2 : b.t = a.t
      · have hq' : (b.t == a.t) = true := by simp; omega
        have HQ := Lib.hid hq2
        by_cases hq3 : a.l < b.l
        · clear hq2
          go_wp2
          go_meet
          exact ⟨by rw [← HN.out]; have := HQ.out; simp; omega, rfl⟩
        · clear hq2
          go_wp2
          go_meet
          exact ⟨by rw [← HN.out]; have := HQ.out; simp; omega, rfl⟩
      · have hq' : (b.t == a.t) = false := by simp; omega
        go_wp2
        go_meet
        exact ⟨by rw [← HN.out]; simp; omega, rfl⟩
  simp only [rc, Roll.zero] at hcut
  obtain ⟨rfl, hcut⟩ := hcut
  subst hcut
  go_upto_if 73 with (fail)
  go_cut [] (fun wx => wx = (((((w.alloc (rc a)).alloc (rc b)).alloc (rc Roll.zero)).alloc (rc a)).alloc (rc b)).alloc (rc ⟨a.c + b.c, a.s + b.s, min a.mi b.mi, max a.ma b.ma, T, L⟩))
  case first =>
    have eT := HT.out
    have eL := HL.out
    have eN := HN.out
    cases nb
    · have hn : ¬ (a.t < b.t ∨ (a.t = b.t ∧ a.l < b.l)) := of_decide_eq_false eN
      rw [if_neg hn] at eT eL
      have ET := Lib.hid eT
      have EL := Lib.hid eL
      clear eT eL eN hn
      go_wp2
      go_meet
      rw [← ET.out, ← EL.out]
      rfl
    · have hn : (a.t < b.t ∨ (a.t = b.t ∧ a.l < b.l)) := of_decide_eq_true eN
      rw [if_pos hn] at eT eL
      have ET := Lib.hid eT
      have EL := Lib.hid eL
      clear eT eL eN hn
      go_wp2
      go_meet
      rw [← ET.out, ← EL.out]
      rfl
  simp only [rc, Roll.zero] at hcut
  subst hcut
  by_cases h5 : a.c + b.c > 1073741824
  · have eX := HX.out
    rw [if_pos (.inl h5)] at eX
    have EX := Lib.hid eX
    clear eX
    go_wp2
    exact bodyPost_ret (v := .tuple #[.agg #[.int .i64 0, .int .i64 0, .int .i64 0, .int .i64 0, .int .i64 0, .int .i64 0], .int .i64 1]) (by simp [results, Try.results44, go_sem]) rfl ⟨by rw [← EX.out]; rfl, (by repeat (first | exact Below.refl _ _ | assumption | refine Below.drew ?_ | refine Below.alloc ?_ (by simp <;> omega) _ | refine Below.setCell ?_ (by simp <;> omega) _))⟩
  · have h5' : a.c + b.c ≤ 1073741824 := by omega
    cases h6 : within (a.s + b.s) 1125899906842624
    · have eX := HX.out
      rw [if_pos (.inr h6)] at eX
      have EX := Lib.hid eX
      have h6' : inR (a.s + b.s) (-1125899906842624) 1125899906842624 = false := h6
      clear h5 h6 eX
      go_wp2_with (go_at_call 16; refine (in_any _ _ _ _).mono ?_; rintro e w' ⟨rfl, rfl⟩)
      exact bodyPost_ret (v := .tuple #[.agg #[.int .i64 0, .int .i64 0, .int .i64 0, .int .i64 0, .int .i64 0, .int .i64 0], .int .i64 1]) (by simp [results, Try.results44, go_sem]) rfl ⟨by rw [← EX.out]; rfl, (by repeat (first | exact Below.refl _ _ | assumption | refine Below.drew ?_ | refine Below.alloc ?_ (by simp <;> omega) _ | refine Below.setCell ?_ (by simp <;> omega) _))⟩
    · have eX := HX.out
      rw [if_neg (by simp [h6]; omega)] at eX
      have EX := Lib.hid eX
      have h6' : inR (a.s + b.s) (-1125899906842624) 1125899906842624 = true := h6
      clear h5 h6 eX
      go_wp2_with (go_at_call 16; refine (in_any _ _ _ _).mono ?_; rintro e w' ⟨rfl, rfl⟩)
      exact bodyPost_ret (v := .tuple #[.agg #[.int .i64 (a.c + b.c), .int .i64 (a.s + b.s), .int .i64 (min a.mi b.mi), .int .i64 (max a.ma b.ma), .int .i64 T, .int .i64 L], .int .i64 0]) (by simp [results, Try.results44, go_sem]) rfl ⟨by rw [← EX.out], (by repeat (first | exact Below.refl _ _ | assumption | refine Below.drew ?_ | refine Below.alloc ?_ (by simp <;> omega) _ | refine Below.setCell ?_ (by simp <;> omega) _))⟩

theorem refMerge_any (a b : Roll) (w : World) : Calls Try.prog 44 #[.agg #[.int .i64 a.c, .int .i64 a.s, .int .i64 a.mi, .int .i64 a.ma, .int .i64 a.t, .int .i64 a.l], .agg #[.int .i64 b.c, .int .i64 b.s, .int .i64 b.mi, .int .i64 b.ma, .int .i64 b.t, .int .i64 b.l]] w fun e w' => e = .returned (.tuple #[(rollMerge a b).1.v, .int .i64 (rollMerge a b).2]) ∧ Below w.heap.size w w' := by
  by_cases h : rollCheck a ≠ 0 ∨ rollCheck b ≠ 0 ∨ a.c = 0 ∨ b.c = 0
  · exact refMerge_early a b w h
  · simp only [not_or, ne_eq, Decidable.not_not] at h
    exact refMerge_late a b w h.1 h.2.1 h.2.2.1 h.2.2.2
end Go.Proofs.Ytggcinmjmkfboaa
