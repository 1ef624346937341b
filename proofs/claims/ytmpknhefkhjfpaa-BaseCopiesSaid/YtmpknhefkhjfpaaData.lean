/- Plain data: entries, nodes, trees; what is known of points, coming together without a limit. No program in sight. -/
import Derived.Test.YtmpknhefkhjfpaaPlain
namespace Go.Proofs.Ytmpknhefkhjfpaa

structure Ent where
  key : Int
  is : Roll
  deriving DecidableEq, Inhabited
structure Nd where
  leaf : Bool
  ents : List Ent
  keys : List Int
  kids : List Int
  buf : List Ent
  deriving DecidableEq, Inhabited
structure Tr where
  nodes : List Nd
  root : Int
  deriving DecidableEq, Inhabited

/-- What may be known of some points, however many. -/
def Roll.Good (r : Roll) : Prop := 0 < r.c ∧ -1000000 ≤ r.mi ∧ r.mi ≤ 1000000 ∧ -1000000 ≤ r.ma ∧ r.ma ≤ 1000000 ∧ -1000000 ≤ r.l ∧ r.l ≤ 1000000 ∧ 0 ≤ r.t ∧ r.t ≤ 1048575 ∧
  r.mi ≤ r.l ∧ r.l ≤ r.ma ∧ r.c * r.mi ≤ r.s ∧ r.s ≤ r.c * r.ma
/-- Nothing, or something that may be. -/
def Roll.Fine (r : Roll) : Prop := r = Roll.zero ∨ r.Good

theorem good_sum {r : Roll} (h : r.Good) (hc : r.c ≤ 1073741824) : -1125899906842624 ≤ r.s ∧ r.s ≤ 1125899906842624 := by
  obtain ⟨h0, h1, h2, h3, h4, h5, h6, h7, h8, h9, h10, h11, h12⟩ := h
  have a1 := mul_range (c := r.c) (m := r.mi) (by omega) hc h1 h2
  have a2 := mul_range (c := r.c) (m := r.ma) (by omega) hc h3 h4
  omega
theorem check_good {r : Roll} (h : r.Good) (hc : r.c ≤ 1073741824) : rollCheck r = 0 := by
  have hs := good_sum h hc
  obtain ⟨h0, h1, h2, h3, h4, h5, h6, h7, h8, h9, h10, h11, h12⟩ := h
  exact rc0 (by unfold Roll.ranged; omega) (by omega) (by unfold Roll.formed; omega)
theorem good_check {r : Roll} (h : rollCheck r = 0) (hc : r.c ≠ 0) : r.Good ∧ r.c ≤ 1073741824 := by
  unfold rollCheck at h
  split at h
  · rename_i hr
    split at h
    · rename_i hf
      unfold Roll.ranged at hr; unfold Roll.formed at hf
      unfold Roll.Good
      omega
    · cases h
  · cases h
theorem check_nothing {r : Roll} (h : rollCheck r = 0) (hc : r.c = 0) : r = Roll.zero := by
  unfold rollCheck at h
  split at h
  · split at h
    · assumption
    · cases h
  · cases h
theorem check_iff (r : Roll) : rollCheck r = 0 ↔ r.Fine ∧ r.c ≤ 1073741824 := by
  constructor
  · intro h
    by_cases hc : r.c = 0
    · exact ⟨.inl (check_nothing h hc), by omega⟩
    · have := good_check h hc; exact ⟨.inr this.1, this.2⟩
  · rintro ⟨rfl | h, hc⟩
    · decide
    · exact check_good h hc
theorem Roll.Fine.pos {r : Roll} (h : r.Fine) : 0 ≤ r.c := by
  rcases h with rfl | h
  · decide
  · have := h.1; omega
theorem Roll.Fine.good {r : Roll} (h : r.Fine) (hc : r.c ≠ 0) : r.Good := by
  rcases h with rfl | h
  · exact absurd rfl hc
  · exact h
theorem fine_zero : Roll.zero.Fine := .inl rfl
theorem Roll.Fine.zero {r : Roll} (h : r.Fine) (hc : r.c = 0) : r = Roll.zero := by
  rcases h with rfl | h
  · rfl
  · have := h.1; omega

theorem join_zero (a : Roll) : a.join Roll.zero = a := by simp [Roll.join, Roll.zero]
theorem zero_join {a : Roll} (h : a.Fine) : Roll.zero.join a = a := by
  rcases h with rfl | h
  · decide
  · have := h.1
    simp only [Roll.join]
    rw [if_neg (by omega), if_pos (by rfl)]
theorem join_c (a b : Roll) : (a.join b).c = a.c + b.c := by
  unfold Roll.join
  split
  · omega
  · split
    · omega
    · rfl
theorem join_good {a b : Roll} (ha : a.Good) (hb : b.Good) : (a.join b).Good := by
  obtain ⟨h0, h1, h2, h3, h4, h5, h6, h7, h8, h9, h10, h11, h12⟩ := ha
  obtain ⟨g0, g1, g2, g3, g4, g5, g6, g7, g8, g9, g10, g11, g12⟩ := hb
  unfold Roll.join
  rw [if_neg (by omega), if_neg (by omega)]
  have l1 : (a.c + b.c) * min a.mi b.mi ≤ a.s + b.s := by
    have e1 : a.c * min a.mi b.mi ≤ a.c * a.mi := Int.mul_le_mul_of_nonneg_left (by omega) (by omega)
    have e2 : b.c * min a.mi b.mi ≤ b.c * b.mi := Int.mul_le_mul_of_nonneg_left (by omega) (by omega)
    rw [Int.add_mul]; omega
  have l2 : a.s + b.s ≤ (a.c + b.c) * max a.ma b.ma := by
    have e1 : a.c * a.ma ≤ a.c * max a.ma b.ma := Int.mul_le_mul_of_nonneg_left (by omega) (by omega)
    have e2 : b.c * b.ma ≤ b.c * max a.ma b.ma := Int.mul_le_mul_of_nonneg_left (by omega) (by omega)
    rw [Int.add_mul]; omega
  unfold Roll.Good
  simp only
  refine ⟨by omega, by omega, by omega, by omega, by omega, ?_, ?_, ?_, ?_, ?_, ?_, l1, l2⟩ <;> split <;> omega
theorem join_fine {a b : Roll} (ha : a.Fine) (hb : b.Fine) : (a.join b).Fine := by
  rcases hb with rfl | hb
  · rw [join_zero]; exact ha
  · rcases ha with rfl | ha
    · rw [zero_join (.inr hb)]; exact .inr hb
    · exact .inr (join_good ha hb)
theorem join_eq {a b : Roll} (ha : a.c ≠ 0) (hb : b.c ≠ 0) : a.join b = ⟨a.c + b.c, a.s + b.s, min a.mi b.mi, max a.ma b.ma, if a.t < b.t ∨ (a.t = b.t ∧ a.l < b.l) then b.t else a.t, if a.t < b.t ∨ (a.t = b.t ∧ a.l < b.l) then b.l else a.l⟩ := by
  unfold Roll.join; rw [if_neg hb, if_neg ha]
theorem roll_ext {a b : Roll} (h1 : a.c = b.c) (h2 : a.s = b.s) (h3 : a.mi = b.mi) (h4 : a.ma = b.ma) (h5 : a.t = b.t) (h6 : a.l = b.l) : a = b := by
  cases a; cases b; simp_all
theorem join_comm {a b : Roll} (ha : a.Fine) (hb : b.Fine) : a.join b = b.join a := by
  rcases hb with rfl | hb
  · rw [join_zero, zero_join ha]
  · rcases ha with rfl | ha
    · rw [join_zero, zero_join (.inr hb)]
    · have := ha.1; have := hb.1
      rw [join_eq (by omega) (by omega), join_eq (by omega) (by omega)]
      refine roll_ext ?_ ?_ ?_ ?_ ?_ ?_ <;> simp only
      · omega
      · omega
      · omega
      · omega
      · split <;> split <;> omega
      · split <;> split <;> omega
theorem join_assoc {a b c : Roll} (ha : a.Fine) (hb : b.Fine) (hc : c.Fine) : (a.join b).join c = a.join (b.join c) := by
  rcases hc with rfl | hc
  · rw [join_zero, join_zero]
  · rcases hb with rfl | hb
    · rw [join_zero, zero_join (.inr hc)]
    · rcases ha with rfl | ha
      · rw [zero_join (.inr hb), zero_join (.inr (join_good hb hc))]
      · have := ha.1; have := hb.1; have := hc.1
        have e1 : (a.join b).c ≠ 0 := by rw [join_c]; omega
        have e2 : (b.join c).c ≠ 0 := by rw [join_c]; omega
        have f1 : a.join b = ⟨a.c + b.c, a.s + b.s, min a.mi b.mi, max a.ma b.ma, if a.t < b.t ∨ (a.t = b.t ∧ a.l < b.l) then b.t else a.t, if a.t < b.t ∨ (a.t = b.t ∧ a.l < b.l) then b.l else a.l⟩ := by
          unfold Roll.join; rw [if_neg (by omega), if_neg (by omega)]
        have f2 : b.join c = ⟨b.c + c.c, b.s + c.s, min b.mi c.mi, max b.ma c.ma, if b.t < c.t ∨ (b.t = c.t ∧ b.l < c.l) then c.t else b.t, if b.t < c.t ∨ (b.t = c.t ∧ b.l < c.l) then c.l else b.l⟩ := by
          unfold Roll.join; rw [if_neg (by omega), if_neg (by omega)]
        have g1 : ∀ x : Roll, x.c ≠ 0 → x.join c = ⟨x.c + c.c, x.s + c.s, min x.mi c.mi, max x.ma c.ma, if x.t < c.t ∨ (x.t = c.t ∧ x.l < c.l) then c.t else x.t, if x.t < c.t ∨ (x.t = c.t ∧ x.l < c.l) then c.l else x.l⟩ := fun x hx => by
          unfold Roll.join; rw [if_neg (by omega), if_neg hx]
        have g2 : ∀ x : Roll, x.c ≠ 0 → a.join x = ⟨a.c + x.c, a.s + x.s, min a.mi x.mi, max a.ma x.ma, if a.t < x.t ∨ (a.t = x.t ∧ a.l < x.l) then x.t else a.t, if a.t < x.t ∨ (a.t = x.t ∧ a.l < x.l) then x.l else a.l⟩ := fun x hx => by
          unfold Roll.join; rw [if_neg hx, if_neg (by omega)]
        rw [g1 _ e1, g2 _ e2, f1, f2]
        simp only
        refine roll_ext ?_ ?_ ?_ ?_ ?_ ?_ <;> simp only
        · omega
        · omega
        · omega
        · omega
        · by_cases p : a.t < b.t ∨ (a.t = b.t ∧ a.l < b.l) <;> by_cases q : b.t < c.t ∨ (b.t = c.t ∧ b.l < c.l) <;> simp only [p, q, if_true, if_false] <;> split <;> (try split) <;> omega
        · by_cases p : a.t < b.t ∨ (a.t = b.t ∧ a.l < b.l) <;> by_cases q : b.t < c.t ∨ (b.t = c.t ∧ b.l < c.l) <;> simp only [p, q, if_true, if_false] <;> split <;> (try split) <;> omega
/-- What 'Merge' answers of two that may be. -/
theorem merge_fine {a b : Roll} (ha : rollCheck a = 0) (hb : rollCheck b = 0) : rollMerge a b = if a.c + b.c ≤ 1073741824 then (a.join b, 0) else (Roll.zero, 1) := by
  obtain ⟨fa, ca⟩ := (check_iff a).1 ha
  obtain ⟨fb, cb⟩ := (check_iff b).1 hb
  have pa := fa.pos
  have pb := fb.pos
  unfold rollMerge
  rw [if_neg (by simp [ha]), if_neg (by simp [hb])]
  by_cases h0 : a.c = 0 ∨ b.c = 0
  · rw [if_pos h0, if_pos (by omega)]
  · rw [if_neg h0]
    by_cases h1 : a.c + b.c ≤ 1073741824
    · rw [if_pos h1]
      have hg := join_good (fa.good (by omega)) (fb.good (by omega))
      have hc := join_c a b
      have hs := good_sum hg (by omega)
      have es : (a.join b).s = a.s + b.s := by unfold Roll.join; rw [if_neg (by omega), if_neg (by omega)]
      rw [es] at hs
      rw [if_neg]
      simp [within]
      omega
    · rw [if_neg h1, if_pos (.inl (by omega))]
theorem merge_ok {a b : Roll} (ha : rollCheck a = 0) (hb : rollCheck b = 0) (hc : a.c + b.c ≤ 1073741824) : rollMerge a b = (a.join b, 0) ∧ rollCheck (a.join b) = 0 := by
  obtain ⟨fa, ca⟩ := (check_iff a).1 ha
  obtain ⟨fb, cb⟩ := (check_iff b).1 hb
  refine ⟨by rw [merge_fine ha hb, if_pos hc], (check_iff _).2 ⟨join_fine fa fb, by rw [join_c a b]; exact hc⟩⟩
end Go.Proofs.Ytmpknhefkhjfpaa
