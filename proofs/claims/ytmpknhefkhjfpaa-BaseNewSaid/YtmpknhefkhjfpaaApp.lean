/- Rows of the call's own, and slices that hold elements: plain laws for 'append'. -/
import Derived.Test.YtmpknhefkhjfpaaOpenSl
import Derived.Test.YtmpknhefkhjfpaaEq
import Derived.OwnWalk
namespace Go.Proofs.Ytmpknhefkhjfpaa
open Go.RowKit

theorem flat_length {α : Type} {en : α → List Value} {k : Nat} (he : ∀ x, (en x).length = k) : ∀ xs : List α, (xs.flatMap en).length = xs.length * k
  | [] => by simp
  | x :: xs => by
    rw [List.flatMap_cons, List.length_append, flat_length he xs, he, List.length_cons, Nat.add_mul, Nat.one_mul, Nat.add_comm]
theorem flat_get {α : Type} {en : α → List Value} {k : Nat} (he : ∀ x, (en x).length = k) : ∀ {xs : List α} {j : Nat} {u : Value}, (xs.flatMap en)[j]? = some u →
    ∃ i x, xs[i]? = some x ∧ i * k ≤ j ∧ j < i * k + k ∧ (en x)[j - i * k]? = some u
  | [], j, u, h => by simp at h
  | x :: xs, j, u, h => by
    rw [List.flatMap_cons] at h
    by_cases hj : j < k
    · rw [List.getElem?_append_left (by rw [he]; exact hj)] at h
      exact ⟨0, x, rfl, by omega, by omega, by simpa using h⟩
    · rw [List.getElem?_append_right (by rw [he]; omega), he] at h
      obtain ⟨i, y, h1, h2, h3, h4⟩ := flat_get he h
      have e1 : (i + 1) * k = i * k + k := by rw [Nat.add_mul, Nat.one_mul]
      refine ⟨i + 1, y, by simpa using h1, by omega, by omega, ?_⟩
      have e2 : j - (i + 1) * k = j - k - i * k := by omega
      rw [e2]; exact h4
theorem flat_at {α : Type} {en : α → List Value} {k : Nat} (he : ∀ x, (en x).length = k) : ∀ {xs : List α} {i r : Nat} {x : α} {u : Value}, xs[i]? = some x → (en x)[r]? = some u → (xs.flatMap en)[i * k + r]? = some u
  | [], i, r, x, u, h, _ => by simp at h
  | y :: xs, 0, r, x, u, h, hu => by
    simp only [List.getElem?_cons_zero, Option.some.injEq] at h
    subst h
    have hr := (List.getElem?_eq_some_iff.1 hu).1
    rw [List.flatMap_cons, Nat.zero_mul, Nat.zero_add, List.getElem?_append_left hr]
    exact hu
  | y :: xs, i + 1, r, x, u, h, hu => by
    simp only [List.getElem?_cons_succ] at h
    have e1 : (i + 1) * k = i * k + k := by rw [Nat.add_mul, Nat.one_mul]
    rw [List.flatMap_cons, List.getElem?_append_right (by rw [he]; omega), he, show (i + 1) * k + r - k = i * k + r from by omega]
    exact flat_at he h hu

/-- What a slice holds, as the row that 'append' lays behind. -/
theorem SlAt.news {α : Type} {k sz : Nat} {en : α → List Value} {w : World} {ad : Addr} {n cap : Nat} {xs : List α} (he : ∀ x, (en x).length = k) (h : SlAt k sz en w (.slice (some ad) n cap) xs) :
    n = xs.length ∧ (xs.flatMap en).length = xs.length * k ∧ ∀ j u, (xs.flatMap en)[j]? = some u → w.cell? (ad.add j) = some u := by
  obtain ⟨ao, cap', e, h1, h2, h3, h4, h5⟩ := h
  injection e with e1 e2 e3
  subst e1 e2 e3
  refine ⟨rfl, flat_length he xs, fun j u hj => ?_⟩
  obtain ⟨i, x, hx, a1, a2, a3⟩ := flat_get he hj
  obtain ⟨hi, _⟩ := List.getElem?_eq_some_iff.1 hx
  obtain ⟨b, off, e, hb, hc⟩ := h5 (by omega)
  injection e with e
  subst e
  rw [← hc i x hx (j - i * k) u a3]
  congr 1
  simp only [Addr.add]
  split <;> simp <;> omega

/-- A row of one's own, as a slice that holds these elements. -/
theorem SlAt.owned {α : Type} {k sz : Nat} {en : α → List Value} {w : World} {B : Nat} {e : TypeId} {v : Value} {n : Nat} {xs : List α} (he : ∀ x, (en x).length = k) (h : w.ownsRow B e k v n (xs.flatMap en)) (hn : n = xs.length)
    (hs : xs.length * sz ≤ 140737488351232) : SlAt k sz en w v xs := by
  subst hn
  obtain ⟨hl, ⟨rfl, h0⟩ | ⟨g, cap, cur, rfl, hb, hg, h1, h2, h3, h4⟩⟩ := h
  · obtain rfl := List.eq_nil_of_length_eq_zero h0
    exact SlAt.nil _ _ _ _
  · refine ⟨some ⟨g, 0, none⟩, cap, rfl, h1, by unfold maxLen at h2; exact h2, hs, by simp, fun _ => ⟨g, 0, rfl, ?_, fun i x hx j u hu => ?_⟩⟩
    · exact (Array.getElem?_eq_some_iff.1 hg).1
    · have hi := (List.getElem?_eq_some_iff.1 hx).1
      have hj : j < k := by have := (List.getElem?_eq_some_iff.1 hu).1; rw [he] at this; exact this
      have hf := flat_at he hx hu
      rw [← h4, List.getElem?_take] at hf
      split at hf
      · simp only [World.cell?, hg]
        simpa [Nat.zero_add] using hf
      · cases hf

/-- The row behind one's own, one element longer. -/
theorem one_cells (en : List Value) (h : ∀ u ∈ en, u.oneCell' = true) : ∀ u ∈ en, u.oneCell' = true := h

theorem cell_alloc {w : World} {o : Obj} {a : Addr} {u : Value} (h : w.cell? a = some u) : (w.alloc o).cell? a = some u :=
  (((Below.refl w.heap.size w).alloc (Nat.le_refl _) o).cell (p := a) (World.block_lt_of_cell? w a h)).trans h

theorem info_some {P : Program} {e : TypeId} {size bytes : Nat} (h : (P.info? e).map (fun i => (i.zero.map (fun z => z.cells.size), i.size, i.bytes)) = some (some size, size, bytes)) :
    ∃ i z, P.info? e = some i ∧ i.zero = some z ∧ i.size = size ∧ i.bytes = bytes ∧ z.cells.size = size := by
  obtain ⟨i, hi, hzz⟩ := Option.map_eq_some_iff.1 h
  simp only [Prod.mk.injEq] at hzz
  obtain ⟨z, hz, hzs⟩ := Option.map_eq_some_iff.1 hzz.1
  exact ⟨i, z, hi, hz, hzz.2.1, hzz.2.2, hzs⟩

theorem enEnt_length (e : Ent) : (enEnt e).length = 7 := rfl
theorem enInt_length (e : Int) : (enInt e).length = 1 := rfl
theorem enEnt_one (xs : List Ent) : ∀ u ∈ xs.flatMap enEnt, u.oneCell' = true := by
  intro u hu
  obtain ⟨x, _, hx⟩ := List.mem_flatMap.1 hu
  simp [enEnt] at hx
  rcases hx with rfl | rfl | rfl | rfl | rfl | rfl | rfl <;> rfl
theorem enInt_one (xs : List Int) : ∀ u ∈ xs.flatMap enInt, u.oneCell' = true := by
  intro u hu
  obtain ⟨x, _, hx⟩ := List.mem_flatMap.1 hu
  simp [enInt] at hx
  subst hx; rfl
theorem Try.iEnt : (Try.prog.info? 70).map (fun i => (i.zero.map (fun z => z.cells.size), i.size, i.bytes)) = some (some 7, 7, 56) := by kernel_rfl
theorem Try.iInt : (Try.prog.info? 3).map (fun i => (i.zero.map (fun z => z.cells.size), i.size, i.bytes)) = some (some 1, 1, 8) := by kernel_rfl
end Go.Proofs.Ytmpknhefkhjfpaa
