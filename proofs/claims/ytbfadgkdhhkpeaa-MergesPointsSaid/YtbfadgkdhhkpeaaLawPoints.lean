/- The walk of the law MergesPoints. -/
import Derived.Test.YtbfadgkdhhkpeaaPicked
namespace Go.Proofs.Ytbfadgkdhhkpeaa
open Go.RowKit

/-- One point more of what is known: the join, its check, its limits. -/
structure PtsOk (k : Nat) (r : Roll) : Prop where
  c : r.c = k
  zero : k = 0 → r = Roll.zero
  lo : 0 < k → -1000 ≤ r.mi ∧ r.mi ≤ r.l ∧ r.l ≤ r.ma ∧ r.ma ≤ 1000
  sum : (k : Int) * r.mi ≤ r.s ∧ r.s ≤ k * r.ma
  t : r.t = if k = 0 then 0 else (k : Int) - 1
def nextPt (k : Nat) (r : Roll) (v : Int) : Roll := ⟨k + 1, r.s + v, if k = 0 then v else min r.mi v, if k = 0 then v else max r.ma v, k, v⟩
theorem pts_check {k : Nat} {r : Roll} (h : PtsOk k r) (hk : k ≤ 30) : rollCheck r = 0 := by
  by_cases h0 : k = 0
  · rw [h.zero h0]; decide
  · have hl := h.lo (by omega)
    have hs := h.sum
    have ht := h.t
    have hc := h.c
    rw [if_neg h0] at ht
    have m1 : -30000 ≤ (k : Int) * r.mi := by
      have : (k : Int) * (-1000) ≤ k * r.mi := Int.mul_le_mul_of_nonneg_left (by omega) (by omega)
      omega
    have m2 : (k : Int) * r.ma ≤ 30000 := by
      have : (k : Int) * r.ma ≤ k * 1000 := Int.mul_le_mul_of_nonneg_left (by omega) (by omega)
      omega
    refine rc0 ?_ (by omega) ?_
    · unfold Roll.ranged; omega
    · unfold Roll.formed; rw [hc]; omega
theorem pts_next {k : Nat} {r : Roll} {v : Int} (h : PtsOk k r) (hv : -1000 ≤ v ∧ v ≤ 1000) : PtsOk (k + 1) (nextPt k r v) := by
  have hs := h.sum
  by_cases h0 : k = 0
  · have hz := h.zero h0
    subst h0; subst hz
    constructor <;> simp [nextPt, Roll.zero] <;> omega
  · have hl := h.lo (by omega)
    have e1 : ((k : Int) + 1) * min r.mi v = k * min r.mi v + min r.mi v := by rw [Int.add_mul]; simp
    have e2 : ((k : Int) + 1) * max r.ma v = k * max r.ma v + max r.ma v := by rw [Int.add_mul]; simp
    have m1 : (k : Int) * min r.mi v ≤ k * r.mi := Int.mul_le_mul_of_nonneg_left (by omega) (by omega)
    have m2 : (k : Int) * r.ma ≤ k * max r.ma v := Int.mul_le_mul_of_nonneg_left (by omega) (by omega)
    refine ⟨?_, ?_, ?_, ?_, ?_⟩
    · simp [nextPt]
    · omega
    · intro _; simp only [nextPt, h0, if_false]; omega
    · simp only [nextPt, h0, if_false]; push_cast; rw [e1, e2]; omega
    · simp [nextPt]
theorem pts_merge {k : Nat} {r : Roll} {v : Int} (h : PtsOk k r) (hk : k < 30) (hv : -1000 ≤ v ∧ v ≤ 1000) : rollMerge r ⟨1, v, v, v, k, v⟩ = (nextPt k r v, 0) := by
  have c1 := pts_check h (by omega)
  have c2 : rollCheck ⟨1, v, v, v, k, v⟩ = 0 := rc0 (by unfold Roll.ranged; simp only; omega) (by simp) (by unfold Roll.formed; simp only; omega)
  by_cases h0 : k = 0
  · rw [merge_a0 c1 c2 (by rw [h.c, h0]; rfl), h.zero h0]
    subst h0
    simp [nextPt, Roll.zero]
  · have hc := h.c
    have hs := h.sum
    have hl := h.lo (by omega)
    have ht := h.t
    rw [if_neg h0] at ht
    have m1 : -30000 ≤ (k : Int) * r.mi := by
      have : (k : Int) * (-1000) ≤ k * r.mi := Int.mul_le_mul_of_nonneg_left (by omega) (by omega)
      omega
    have m2 : (k : Int) * r.ma ≤ 30000 := by
      have : (k : Int) * r.ma ≤ k * 1000 := Int.mul_le_mul_of_nonneg_left (by omega) (by omega)
      omega
    rw [merge_join c1 c2 (by omega) (by simp) (by simp only; omega) (within_true.2 (by simp only; omega)), join_new (by omega) (by simp) (by unfold newer; simp only; omega)]
    simp [nextPt, h0, hc]
theorem pts_bound {k : Nat} {r : Roll} (h : PtsOk k r) (hk : k ≤ 30) : -30000 ≤ r.s ∧ r.s ≤ 30000 := by
  by_cases h0 : k = 0
  · rw [h.zero h0]; decide
  · have hs := h.sum
    have hl := h.lo (by omega)
    have m1 : (k : Int) * (-1000) ≤ k * r.mi := Int.mul_le_mul_of_nonneg_left (by omega) (by omega)
    have m2 : (k : Int) * r.ma ≤ k * 1000 := Int.mul_le_mul_of_nonneg_left (by omega) (by omega)
    omega
theorem of_pt {k : Nat} {v : Int} (hk : k < 30) (hv : -1000 ≤ v ∧ v ≤ 1000) : rollOf k v = (⟨1, v, v, v, k, v⟩, 0) := by
  unfold rollOf; rw [if_pos (by omega)]

theorem of_pt_any (k : Nat) (v : Int) (hk : k < 30) (h1 : -1000 ≤ v) (h2 : v ≤ 1000) (w : World) : Calls Try.prog 21 #[.int .i64 k, .int .i64 v] w fun e w' =>
    e = .returned (.tuple #[.agg #[.int .i64 1, .int .i64 v, .int .i64 v, .int .i64 v, .int .i64 k, .int .i64 v], .int .i64 0]) ∧ Below w.heap.size w w' := by
  have := of_any k v w
  rw [of_pt hk ⟨h1, h2⟩] at this
  exact this
theorem merge_pt_any (k : Nat) (r : Roll) (v : Int) (h : Hid (PtsOk k r)) (hk : k < 30) (h1 : -1000 ≤ v) (h2 : v ≤ 1000) (w : World) :
    Calls Try.prog 33 #[.agg #[.int .i64 k, .int .i64 r.s, .int .i64 r.mi, .int .i64 r.ma, .int .i64 r.t, .int .i64 r.l], .agg #[.int .i64 1, .int .i64 v, .int .i64 v, .int .i64 v, .int .i64 k, .int .i64 v]] w fun e w' =>
    e = .returned (.tuple #[.agg #[.int .i64 (k + 1), .int .i64 (r.s + v), .int .i64 (nextPt k r v).mi, .int .i64 (nextPt k r v).ma, .int .i64 k, .int .i64 v], .int .i64 0]) ∧ Below w.heap.size w w' := by
  have := merge_any r ⟨1, v, v, v, k, v⟩ w
  rw [pts_merge h.out hk ⟨h1, h2⟩] at this
  rw [← h.out.c]
  have hc := h.out.c
  simpa only [nextPt, hc] using this

set_option maxHeartbeats 1600000 in
set_option maxRecDepth 100000 in
theorem mergesPoints_any (ao : Option Addr) (n cap : Nat) (z : Nat → Int) (w : World) (hn : n ≤ cap) (hcap : cap ≤ 9223372036854775807)
    (hz : ∀ i, i < n → -9223372036854775808 ≤ z i ∧ z i ≤ 9223372036854775807)
    (hao : 0 < n → ∃ b off, ao = some ⟨b, off, none⟩ ∧ b < w.heap.size ∧ ∀ i, i < n → w.cell? ⟨b, off + i, none⟩ = some (.int .i64 (z i))) :
    Calls Try.prog 12 #[.slice ao n cap] w fun e w' => e = .returned (.bool true) ∧ Below w.heap.size w w' := by
  go_enter Try.func12, Try.ntmps12
  go_wp2_with fail
  go_loopg [4, 5, 6, 7, 8, 9, 10, 11, 12] n (fun g s lo hi i _ _ _ _ _ wr => ∃ (k : Nat) (r : Roll), k ≤ n ∧ k ≤ 30 ∧ g = n - k ∧ i = .int .i64 k ∧ Hid (PtsOk k r) ∧ s = .int .i64 r.s ∧ lo = .int .i64 r.mi ∧ hi = .int .i64 r.ma ∧
    -30000 ≤ r.s ∧ r.s ≤ 30000 ∧ w.heap.size < wr.heap.size ∧
    wr.heap[w.heap.size]? = some (.cells #[.int .i64 k, .int .i64 r.s, .int .i64 r.mi, .int .i64 r.ma, .int .i64 r.t, .int .i64 r.l] 33 (0, 0)) ∧ Below w.heap.size w wr)
  case atStart =>
    exact ⟨0, Roll.zero, Nat.zero_le _, by omega, by omega, rfl, Lib.hid ⟨rfl, fun _ => rfl, by omega, by simp [Roll.zero], rfl⟩, rfl, rfl, rfl, by simp [Roll.zero], by simp [Roll.zero], by simp, by show (w.heap.push _)[w.heap.size]? = _; simp [Roll.zero], (by repeat (first | exact Below.refl _ _ | assumption | refine Below.drew ?_ | refine Below.alloc ?_ (by simp <;> omega) _ | refine Below.setCell ?_ (by simp <;> omega) _))⟩
  case round =>
    obtain ⟨k, r, hkn, hk30, rfl, rfl, HP, rfl, rfl, rfl, hs1, hs2, hlt0, hblk, hb⟩ := hrel
    have c0 : wr.cell? ⟨w.heap.size, 0, none⟩ = some (.int .i64 k) := by simp [World.cell?, hblk]
    have c1 : wr.cell? ⟨w.heap.size, 1, none⟩ = some (.int .i64 r.s) := by simp [World.cell?, hblk]
    have c2 : wr.cell? ⟨w.heap.size, 2, none⟩ = some (.int .i64 r.mi) := by simp [World.cell?, hblk]
    have c3 : wr.cell? ⟨w.heap.size, 3, none⟩ = some (.int .i64 r.ma) := by simp [World.cell?, hblk]
    have c4 : wr.cell? ⟨w.heap.size, 4, none⟩ = some (.int .i64 r.t) := by simp [World.cell?, hblk]
    have c5 : wr.cell? ⟨w.heap.size, 5, none⟩ = some (.int .i64 r.l) := by simp [World.cell?, hblk]
    have fz : ∀ j, wr.frozen? ⟨w.heap.size, j, none⟩ = false := fun j => by simp [World.frozen?, hblk]
    by_cases hlt : k < n ∧ k < 30
    · obtain ⟨hlt, hlt3⟩ := hlt
      obtain ⟨b, off, hae, hbb, hcell⟩ := hao (by omega)
      have hck : wr.cell? ⟨b, off + k, none⟩ = some (.int .i64 (z k)) := (hb.cell (p := ⟨b, off + k, none⟩) hbb).trans (hcell k hlt)
      obtain ⟨hz1, hz2⟩ := hz k hlt
      have HBLK := Lib.hid hblk
      have HZ := Lib.hid hz
      have HAO := Lib.hid hao
      have HC := Lib.hid hcell
      clear hblk hz hao hcell
      subst hae
      obtain ⟨v, hv⟩ : ∃ v, picked (z k) 2001 - 1000 = v := ⟨_, rfl⟩
      have pr := picked_range (n := z k) (m := 2001) (by omega)
      have v1 : -1000 ≤ v := by omega
      have v2 : v ≤ 1000 := by omega
      obtain ⟨p1, p2⟩ := pr
      by_cases hk0 : k = 0
      · have hk0' : ((k : Int) == 0) = true := by simp [hk0]
        have HK0 := Lib.hid hk0
        clear hk0
        go_wp2_with (first
          | (go_at_call 35; refine (picked_any _ _ _ (by omega) (by omega) (by omega) (by omega)).mono ?_; rintro e w1 ⟨rfl, rfl⟩)
          | (go_at_call 21; refine (of_pt_any _ _ (by omega) (by omega) (by omega) _).mono ?_; rintro e w1 ⟨rfl, hb1⟩; obtain ⟨q1, q2, q3⟩ := keep1 hb1 (B := w.heap.size) (by omega))
          | (go_at_call 33; refine (merge_pt_any k r v HP (by omega) (by omega) (by omega) _).mono ?_; rintro e w2 ⟨rfl, hb2⟩; obtain ⟨q4, q5, q6⟩ := keep1 hb2 (B := w.heap.size) (by simp; omega); obtain ⟨q7, q8, q9⟩ := keep1 hb2 (B := w1.heap.size) (by simp)))
        all_goals go_roundg (n - (k + 1))
        all_goals first | (case' measure => omega) | skip
        all_goals have hk0 := HK0.out
        all_goals
          have hp := pts_next HP.out (v := v) ⟨v1, v2⟩
          have PB := pts_bound hp (by omega)
          have hl := hp.lo (by omega)
          have hs := hp.sum
          have hz1' := hb1.size
          have hz2' := hb2.size
          simp only [World.size_alloc] at hz1' hz2'
          have hB2 : w2.heap[w.heap.size]? = some (.cells #[.int .i64 k, .int .i64 r.s, .int .i64 r.mi, .int .i64 r.ma, .int .i64 r.t, .int .i64 r.l] 33 (0, 0)) := by
            rw [hb2.block _ (by simp; omega), heap_alloc_lt (by omega), hb1.block _ (by omega)]
            exact HBLK.out
          refine ⟨k + 1, nextPt k r v, by omega, by omega, rfl, int_eq (by push_cast; omega), Lib.hid hp, rfl, int_eq (by simp only [nextPt, hk0, if_true, if_false]; try omega), int_eq (by simp only [nextPt, hk0, if_true, if_false]; try omega), ?_, ?_, ?_, ?_, ?_⟩
          · simp only [nextPt]; exact PB.1
          · simp only [nextPt]; exact PB.2
          · simp [heap_setCell_size]; omega
          · rw [heap_alloc_lt (by simp [heap_setCell_size]; omega), heap_set6 hB2]
            simp [nextPt, *]
          · refine Below.alloc ?_ (by simp [heap_setCell_size]; omega) _
            have hb2' : Below w.heap.size w w2 := (hb.trans (hb1.mono (by omega))).trans ((Below.alloc (Below.refl _ _) (by omega) _).trans (hb2.mono (by simp; omega)))
            exact ((((((hb2'.setCell (by simp) _).setCell (by simp) _).setCell (by simp) _).setCell (by simp) _).setCell (by simp) _).setCell (by simp) _)
      · have hk0' : ((k : Int) == 0) = false := by simp [hk0]
        go_wp2_with (first
          | (go_at_call 35; refine (picked_any _ _ _ (by omega) (by omega) (by omega) (by omega)).mono ?_; rintro e w1 ⟨rfl, rfl⟩)
          | (go_at_call 21; refine (of_pt_any _ _ (by omega) (by omega) (by omega) _).mono ?_; rintro e w1 ⟨rfl, hb1⟩; obtain ⟨q1, q2, q3⟩ := keep1 hb1 (B := w.heap.size) (by omega))
          | (go_at_call 33; refine (merge_pt_any k r v HP (by omega) (by omega) (by omega) _).mono ?_; rintro e w2 ⟨rfl, hb2⟩; obtain ⟨q4, q5, q6⟩ := keep1 hb2 (B := w.heap.size) (by simp; omega); obtain ⟨q7, q8, q9⟩ := keep1 hb2 (B := w1.heap.size) (by simp)))
        all_goals go_roundg (n - (k + 1))
        all_goals first | (case' measure => omega) | skip
        all_goals
          have hp := pts_next HP.out (v := v) ⟨v1, v2⟩
          have PB := pts_bound hp (by omega)
          have hl := hp.lo (by omega)
          have hs := hp.sum
          have hz1' := hb1.size
          have hz2' := hb2.size
          simp only [World.size_alloc] at hz1' hz2'
          have hB2 : w2.heap[w.heap.size]? = some (.cells #[.int .i64 k, .int .i64 r.s, .int .i64 r.mi, .int .i64 r.ma, .int .i64 r.t, .int .i64 r.l] 33 (0, 0)) := by
            rw [hb2.block _ (by simp; omega), heap_alloc_lt (by omega), hb1.block _ (by omega)]
            exact HBLK.out
          refine ⟨k + 1, nextPt k r v, by omega, by omega, rfl, int_eq (by push_cast; omega), Lib.hid hp, rfl, int_eq (by simp only [nextPt, hk0, if_true, if_false]; try omega), int_eq (by simp only [nextPt, hk0, if_true, if_false]; try omega), ?_, ?_, ?_, ?_, ?_⟩
          · simp only [nextPt]; exact PB.1
          · simp only [nextPt]; exact PB.2
          · simp [heap_setCell_size]; omega
          · rw [heap_alloc_lt (by simp [heap_setCell_size]; omega), heap_set6 hB2]
            simp [nextPt, *]
          · refine Below.alloc ?_ (by simp [heap_setCell_size]; omega) _
            have hb2' : Below w.heap.size w w2 := (hb.trans (hb1.mono (by omega))).trans ((Below.alloc (Below.refl _ _) (by omega) _).trans (hb2.mono (by simp; omega)))
            exact ((((((hb2'.setCell (by simp) _).setCell (by simp) _).setCell (by simp) _).setCell (by simp) _).setCell (by simp) _).setCell (by simp) _)
    · have hm : ((k : Int) == min (n : Int) 30) = true := by simp; omega
      have HBLK := Lib.hid hblk
      clear hblk hz hao
      by_cases hkn' : k < n
      · have hk3 : ¬ k < 30 := by omega
        go_wp2
        go_ret
        exact ⟨by simp, hb⟩
      · go_wp2
        go_ret
        exact ⟨by simp, hb⟩
end Go.Proofs.Ytbfadgkdhhkpeaa
