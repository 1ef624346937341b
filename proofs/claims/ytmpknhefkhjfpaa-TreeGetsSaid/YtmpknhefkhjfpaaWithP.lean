/- Entries with one more: the step of the loop that looks for its place. No program in sight. -/
import Derived.Test.YtmpknhefkhjfpaaGet
namespace Go.Proofs.Ytmpknhefkhjfpaa

/-- What the loop has made after k rounds: the place is found already, or not yet. -/
def WithRel (xs : List Ent) (x : Ent) (k : Nat) (done : Bool) (outs : List Ent) : Prop :=
  outs.length ≤ k + 1 ∧ (done = true → insC xs x = some (outs ++ xs.drop k)) ∧ (done = false → outs = xs.take k ∧ insC xs x = (insC (xs.drop k) x).map (fun l => outs ++ l))
theorem withRel_start (xs : List Ent) (x : Ent) : WithRel xs x 0 false [] := ⟨by simp, by simp, by simp⟩
theorem withRel_done {xs : List Ent} {x : Ent} {k : Nat} {outs : List Ent} (hk : k < xs.length) (h : WithRel xs x k true outs) : WithRel xs x (k + 1) true (outs ++ [xs[k]]) := by
  obtain ⟨h1, h2, _⟩ := h
  refine ⟨by simp; omega, fun _ => ?_, by simp⟩
  rw [h2 rfl, List.drop_eq_getElem_cons hk]; simp
theorem withRel_less {xs : List Ent} {x : Ent} {k : Nat} {outs : List Ent} (hk : k < xs.length) (h : WithRel xs x k false outs) (hl : xs[k].key < x.key) : WithRel xs x (k + 1) false (outs ++ [xs[k]]) := by
  obtain ⟨h1, _, h3⟩ := h
  obtain ⟨rfl, h5⟩ := h3 rfl
  refine ⟨by simp; omega, by simp, fun _ => ⟨by rw [List.take_succ_eq_append_getElem hk], ?_⟩⟩
  rw [h5, List.drop_eq_getElem_cons hk]
  show (if xs[k].key < x.key then _ else _ : Option (List Ent)).map _ = _
  rw [if_pos hl]
  cases insC (xs.drop (k + 1)) x with
  | none => rfl
  | some l => simp only [Option.map_some]; rw [List.append_assoc]; rfl
theorem withRel_more {xs : List Ent} {x : Ent} {k : Nat} {outs : List Ent} (hk : k < xs.length) (h : WithRel xs x k false outs) (hl : x.key < xs[k].key) : WithRel xs x (k + 1) true (outs ++ [x] ++ [xs[k]]) := by
  obtain ⟨h1, _, h3⟩ := h
  obtain ⟨rfl, h5⟩ := h3 rfl
  refine ⟨by simp; omega, fun _ => ?_, by simp⟩
  rw [h5, List.drop_eq_getElem_cons hk]
  show (if xs[k].key < x.key then _ else if xs[k].key = x.key then _ else _ : Option (List Ent)).map _ = _
  rw [if_neg (by omega), if_neg (by omega)]; simp
theorem withRel_same {xs : List Ent} {x : Ent} {k : Nat} {outs : List Ent} (hk : k < xs.length) (h : WithRel xs x k false outs) (hl : xs[k].key = x.key) :
    (xs[k].is.c + x.is.c ≤ 1073741824 → WithRel xs x (k + 1) true (outs ++ [⟨x.key, xs[k].is.join x.is⟩])) ∧ (¬ xs[k].is.c + x.is.c ≤ 1073741824 → insC xs x = none) := by
  obtain ⟨h1, _, h3⟩ := h
  obtain ⟨rfl, h5⟩ := h3 rfl
  rw [List.drop_eq_getElem_cons hk] at h5
  have e : insC (xs[k] :: xs.drop (k + 1)) x = if xs[k].is.c + x.is.c ≤ 1073741824 then some (⟨x.key, xs[k].is.join x.is⟩ :: xs.drop (k + 1)) else none := by
    show (if xs[k].key < x.key then _ else if xs[k].key = x.key then _ else _ : Option (List Ent)) = _
    rw [if_neg (by omega), if_pos hl]
  rw [e] at h5
  refine ⟨fun hc => ⟨by simp; omega, fun _ => ?_, by simp⟩, fun hc => ?_⟩
  · rw [h5, if_pos hc]; simp
  · rw [h5, if_neg hc]; rfl
theorem withRel_end {xs : List Ent} {x : Ent} {k : Nat} {outs : List Ent} (hk : xs.length ≤ k) : (WithRel xs x k true outs → insC xs x = some outs) ∧ (WithRel xs x k false outs → insC xs x = some (outs ++ [x])) := by
  refine ⟨fun h => ?_, fun h => ?_⟩
  · rw [h.2.1 rfl, List.drop_eq_nil_of_le hk]; simp
  · rw [(h.2.2 rfl).2, List.drop_eq_nil_of_le hk]; rfl
theorem insC_length {xs : List Ent} {x : Ent} {l : List Ent} (h : insC xs x = some l) : l.length ≤ xs.length + 1 := by
  induction xs generalizing l with
  | nil => simp only [insC, Option.some.injEq] at h; rw [← h]; simp
  | cons e xs ih =>
    unfold insC at h
    split at h
    · obtain ⟨m, hm, rfl⟩ := Option.map_eq_some_iff.1 h
      have := ih hm
      simp only [List.length_cons]; omega
    · split at h
      · split at h
        · simp only [Option.some.injEq] at h; rw [← h]; simp
        · cases h
      · simp only [Option.some.injEq] at h; rw [← h]; simp
end Go.Proofs.Ytmpknhefkhjfpaa
