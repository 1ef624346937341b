/- Where a key stands among rising ones: plain laws. No program in sight. -/
import Derived.Test.YtmpknhefkhjfpaaAllP
namespace Go.Proofs.Ytmpknhefkhjfpaa

theorem takeWhile_len {α : Type} {p : α → Bool} : ∀ {l : List α} {k : Nat}, k ≤ l.length → (∀ t (ht : t < l.length), t < k → p l[t] = true) → (∀ ht : k < l.length, p l[k] = false) → (l.takeWhile p).length = k
  | [], k, hk, _, _ => by simp at hk; simp [hk]
  | a :: l, 0, _, _, h2 => by
    have := h2 (by simp)
    simp only [List.getElem_cons_zero] at this
    simp [this]
  | a :: l, k + 1, hk, h1, h2 => by
    have h0 := h1 0 (by simp) (by omega)
    simp only [List.getElem_cons_zero] at h0
    rw [List.takeWhile_cons_of_pos h0, List.length_cons, takeWhile_len (k := k) (by simpa using hk) (fun t ht htk => h1 (t + 1) (by simpa using ht) (by omega)) (fun ht => h2 (by simpa using ht))]
def posI (zs : List Int) (x : Int) : Nat := (zs.takeWhile fun z => decide (z < x)).length
def posE (es : List Ent) (x : Int) : Nat := (es.takeWhile fun e => decide (e.key < x)).length
def hasE (es : List Ent) (x : Int) : Bool := es.any fun e => decide (e.key = x)

theorem posI_eq {zs : List Int} {x : Int} {k : Nat} (hk : k ≤ zs.length) (h1 : ∀ t (ht : t < zs.length), t < k → zs[t] < x) (h2 : ∀ t (ht : t < zs.length), k ≤ t → x ≤ zs[t]) : posI zs x = k :=
  takeWhile_len hk (fun t ht htk => by simpa using h1 t ht htk) (fun ht => by simpa using h2 k ht (Nat.le_refl _))
theorem hasI_eq {zs : List Int} {x : Int} {k : Nat} (hs : zs.Pairwise (· < ·)) (h1 : ∀ t (ht : t < zs.length), t < k → zs[t] < x) (h2 : ∀ t (ht : t < zs.length), k ≤ t → x ≤ zs[t]) : decide (x ∈ zs) = if h : k < zs.length then decide (zs[k] = x) else false := by
  by_cases hk : k < zs.length
  · rw [dif_pos hk, decide_eq_decide]
    constructor
    · intro hm
      obtain ⟨t, ht, rfl⟩ := List.getElem_of_mem hm
      by_cases h : t < k
      · have := h1 t ht h; omega
      · by_cases h' : t = k
        · subst h'; rfl
        · have := List.pairwise_iff_getElem.1 hs k t hk ht (by omega)
          have := h2 k hk (Nat.le_refl _); omega
    · intro h; rw [← h]; exact List.getElem_mem hk
  · rw [dif_neg hk, decide_eq_false]
    intro hm
    obtain ⟨t, ht, rfl⟩ := List.getElem_of_mem hm
    have := h1 t ht (by omega); omega
theorem posE_eq {es : List Ent} {x : Int} {k : Nat} (hk : k ≤ es.length) (h1 : ∀ t (ht : t < es.length), t < k → es[t].key < x) (h2 : ∀ t (ht : t < es.length), k ≤ t → x ≤ es[t].key) : posE es x = k :=
  takeWhile_len hk (fun t ht htk => by simpa using h1 t ht htk) (fun ht => by simpa using h2 k ht (Nat.le_refl _))
theorem hasE_eq {es : List Ent} {x : Int} {k : Nat} (hs : Rising es) (h1 : ∀ t (ht : t < es.length), t < k → es[t].key < x) (h2 : ∀ t (ht : t < es.length), k ≤ t → x ≤ es[t].key) : hasE es x = if h : k < es.length then decide (es[k].key = x) else false := by
  by_cases hk : k < es.length
  · rw [dif_pos hk]
    unfold hasE
    rw [Bool.eq_iff_iff, List.any_eq_true, decide_eq_true_eq]
    constructor
    · rintro ⟨e, he, hm⟩
      have hm := of_decide_eq_true hm
      obtain ⟨t, ht, rfl⟩ := List.getElem_of_mem he
      by_cases h : t < k
      · have := h1 t ht h; omega
      · by_cases h' : t = k
        · subst h'; exact hm
        · have := List.pairwise_iff_getElem.1 hs k t hk ht (by omega)
          have := h2 k hk (Nat.le_refl _); omega
    · intro h; exact ⟨es[k], List.getElem_mem hk, by simpa using h⟩
  · rw [dif_neg hk]
    unfold hasE
    rw [List.any_eq_false]
    intro e he
    obtain ⟨t, ht, rfl⟩ := List.getElem_of_mem he
    have := h1 t ht (by omega); simp; omega
/-- The kid for a key: where the key stands, and one behind if it is there. -/
theorem kidIx_pos {keys : List Int} {x : Int} (hs : keys.Pairwise (· < ·)) : kidIx keys x = posI keys x + if x ∈ keys then 1 else 0 := by
  induction keys with
  | nil => rfl
  | cons k ks ih =>
    have hp := List.pairwise_cons.1 hs
    have ih := ih hp.2
    unfold kidIx posI at *
    by_cases h1 : k < x
    · have h2 : k ≤ x := by omega
      rw [List.takeWhile_cons_of_pos (by simpa using h2), List.takeWhile_cons_of_pos (by simpa using h1), List.length_cons, List.length_cons, ih]
      have : (x ∈ k :: ks) ↔ x ∈ ks := by rw [List.mem_cons]; exact ⟨fun h => h.resolve_left (by omega), .inr⟩
      by_cases h : x ∈ ks
      · rw [if_pos h, if_pos (this.2 h)]
      · rw [if_neg h, if_neg (fun h' => h (this.1 h'))]
    · rw [List.takeWhile_cons_of_neg (p := fun z => decide (z < x)) (by simpa using h1)]
      by_cases h2 : k = x
      · subst h2
        rw [List.takeWhile_cons_of_pos (by simp), List.length_cons, if_pos (by simp)]
        cases ks with
        | nil => rfl
        | cons y ys =>
          have := hp.1 y (by simp)
          rw [List.takeWhile_cons_of_neg (by simp; omega)]
      · have hn : ¬ x ∈ k :: ks := fun hm => by
          rcases List.mem_cons.1 hm with h | h
          · exact h2 h.symm
          · have := hp.1 x h; omega
        rw [List.takeWhile_cons_of_neg (by simp; omega), if_neg hn]; rfl
theorem visKids_bounds {go : Int → Int → Int → Option (List Int × Nat)} {x : Nd} {a b : Int} : ∀ {ks : List Int} {i : Nat} {l : List Int} {h : Nat}, visKids go x a b ks i = some (l, h) → ∀ j, j < ks.length → x.from a (i + j) < x.upto b (i + j) ∧ a ≤ x.from a (i + j) ∧ x.upto b (i + j) ≤ b
  | [], _, _, _, _ => fun j hj => by simp at hj
  | k :: ks, i, l, h, hv => by
    unfold visKids at hv
    split at hv
    · rename_i hc
      split at hv
      · rename_i l1 h1 l2 h2 e1 e2
        intro j hj
        cases j with
        | zero => exact hc
        | succ j =>
          have := visKids_bounds e2 j (by simpa using hj)
          rwa [show i + 1 + j = i + (j + 1) from by omega] at this
      · cases hv
    · cases hv
/-- A node that may be: its keys rise, within bounds. -/
theorem vis_keys {t : Tr} {f : Nat} {n a b : Int} {l : List Int} {h : Nat} {x : Nd} (hv : vis t (f + 1) n a b = some (l, h)) (hx : t.at? n = some x) (hl : x.leaf = false) : x.keys.Pairwise (· < ·) ∧ ∀ k ∈ x.keys, a ≤ k ∧ k ≤ b := by
  obtain ⟨_, ⟨h1, _⟩ | ⟨_, hok, l', h', hk, rfl, _⟩⟩ := vis_inner hv hx
  · rw [hl] at h1; cases h1
  · have hb := visKids_bounds hk
    have hkl := hok.2.2.2.1
    have g : ∀ j (hj : j < x.keys.length), x.upto b (0 + j) = x.keys[j] ∧ x.from a (0 + (j + 1)) = x.keys[j] := fun j hj => by
      simp [Nd.upto, Nd.from, hj]
    refine ⟨List.pairwise_iff_getElem.2 fun i j hi hj hij => ?_, fun k hk => ?_⟩
    · have step : ∀ m (hm : m + 1 < x.keys.length), x.keys[m] < x.keys[m + 1] := fun m hm => by
        have h1 := (hb (m + 1) (by omega)).1
        rw [(g m (by omega)).2, (g (m + 1) hm).1] at h1
        exact h1
      obtain ⟨d, rfl⟩ : ∃ d, j = i + 1 + d := ⟨j - i - 1, by omega⟩
      clear hij
      induction d with
      | zero => exact step i hj
      | succ d ih =>
        exact Int.lt_trans (ih (by omega) step) (step (i + 1 + d) (by omega))
    · obtain ⟨j, hj, rfl⟩ := List.getElem_of_mem hk
      have h1 := hb j (by omega)
      rw [(g j hj).1] at h1
      omega
end Go.Proofs.Ytmpknhefkhjfpaa
