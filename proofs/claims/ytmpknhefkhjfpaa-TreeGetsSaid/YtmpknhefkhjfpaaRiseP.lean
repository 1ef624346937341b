/- Entries that may be: the step of the loops that look at them. No program in sight. -/
import Derived.Test.YtmpknhefkhjfpaaVis
namespace Go.Proofs.Ytmpknhefkhjfpaa

instance (l : List Ent) (lo hi : Int) : Decidable (EntsOk l lo hi) := by unfold EntsOk Checked Rising; infer_instance
def entsB (l : List Ent) (lo hi : Int) : Bool := decide (EntsOk l lo hi)
theorem entsB_true {l : List Ent} {lo hi : Int} : entsB l lo hi = true ↔ EntsOk l lo hi := by simp [entsB]
theorem entsB_false {l : List Ent} {lo hi : Int} : entsB l lo hi = false ↔ ¬ EntsOk l lo hi := by simp [entsB]
theorem entsOk_nil (lo hi : Int) : EntsOk [] lo hi := ⟨by simp [Checked], by simp, List.Pairwise.nil⟩
theorem entsOk_take {l : List Ent} {lo hi : Int} (h : EntsOk l lo hi) (k : Nat) : EntsOk (l.take k) lo hi :=
  ⟨fun e he => h.1 e (List.mem_of_mem_take he), fun e he => h.2.1 e (List.mem_of_mem_take he), h.2.2.sublist (List.take_sublist k l)⟩
theorem entsOk_step {l : List Ent} {lo hi : Int} {k : Nat} (hk : k < l.length) (h : EntsOk (l.take k) lo hi) (h1 : lo ≤ l[k].key) (h2 : l[k].key < hi) (h3 : ∀ hk0 : 0 < k, l[k - 1].key < l[k].key) (h4 : l[k].is.c ≠ 0) (h5 : rollCheck l[k].is = 0) :
    EntsOk (l.take (k + 1)) lo hi := by
  rw [List.take_succ_eq_append_getElem hk]
  refine ⟨fun e he => ?_, fun e he => ?_, ?_⟩
  · rcases List.mem_append.1 he with he | he
    · exact h.1 e he
    · obtain rfl := List.mem_singleton.1 he; exact ⟨h4, h5⟩
  · rcases List.mem_append.1 he with he | he
    · exact h.2.1 e he
    · obtain rfl := List.mem_singleton.1 he; exact ⟨h1, h2⟩
  · refine List.pairwise_append.2 ⟨h.2.2, List.pairwise_singleton _ _, fun a ha b hb => ?_⟩
    obtain rfl := List.mem_singleton.1 hb
    obtain ⟨i, hi', rfl⟩ := List.getElem_of_mem ha
    simp only [List.length_take] at hi'
    rw [List.getElem_take]
    have hk0 : 0 < k := by omega
    have := h3 hk0
    by_cases hik : i = k - 1
    · subst hik; exact this
    · have hp := List.pairwise_iff_getElem.1 h.2.2 i (k - 1) (by simp; omega) (by simp; omega) (by omega)
      rw [List.getElem_take, List.getElem_take] at hp
      omega
theorem entsOk_at {l : List Ent} {lo hi : Int} (h : EntsOk l lo hi) {k : Nat} (hk : k < l.length) : lo ≤ l[k].key ∧ l[k].key < hi ∧ l[k].is.c ≠ 0 ∧ rollCheck l[k].is = 0 ∧ (∀ hk0 : 0 < k, l[k - 1].key < l[k].key) := by
  have hm : l[k] ∈ l := List.getElem_mem hk
  exact ⟨(h.2.1 _ hm).1, (h.2.1 _ hm).2, (h.1 _ hm).1, (h.1 _ hm).2, fun hk0 => List.pairwise_iff_getElem.1 h.2.2 (k - 1) k (by omega) hk (by omega)⟩
theorem entsOk_full {l : List Ent} {lo hi : Int} {k : Nat} (hk : l.length ≤ k) (h : EntsOk (l.take k) lo hi) : EntsOk l lo hi := by rwa [List.take_of_length_le hk] at h
end Go.Proofs.Ytmpknhefkhjfpaa
