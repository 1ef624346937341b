/- Slices of entries and of ints, compared element by element: sameEntries (of the laws, of the reference), sameInts. -/
import Derived.Test.YtalnnghnipoogaaDoorRO
import Derived.Test.YtalnnghnipoogaaDoorKG
namespace Go.Proofs.YtalnnghnipoogaaDoor
open Go.RowKit

theorem ent_cells {w wr : World} {b off k : Nat} {xs : List Ent} (hb : Below w.heap.size w wr) (hbb : b < w.heap.size)
    (h : ∀ i x, xs[i]? = some x → ∀ j u, (enEnt x)[j]? = some u → w.cell? ⟨b, off + i * 7 + j, none⟩ = some u) (hk : k < xs.length) :
    wr.cell? ⟨b, off + k * 7, none⟩ = some (.int .i64 xs[k].key) ∧ wr.cell? ⟨b, off + k * 7 + 1, none⟩ = some (.int .i64 xs[k].is.c) ∧ wr.cell? ⟨b, off + k * 7 + 2, none⟩ = some (.int .i64 xs[k].is.s) ∧
    wr.cell? ⟨b, off + k * 7 + 3, none⟩ = some (.int .i64 xs[k].is.mi) ∧ wr.cell? ⟨b, off + k * 7 + 4, none⟩ = some (.int .i64 xs[k].is.ma) ∧ wr.cell? ⟨b, off + k * 7 + 5, none⟩ = some (.int .i64 xs[k].is.t) ∧
    wr.cell? ⟨b, off + k * 7 + 6, none⟩ = some (.int .i64 xs[k].is.l) := by
  have g : ∀ j u, (enEnt xs[k])[j]? = some u → wr.cell? ⟨b, off + k * 7 + j, none⟩ = some u := fun j u hu =>
    (hb.cell (p := ⟨b, _, none⟩) hbb).trans (h k xs[k] (by simp [hk]) j u hu)
  exact ⟨by simpa using g 0 _ rfl, g 1 _ rfl, g 2 _ rfl, g 3 _ rfl, g 4 _ rfl, g 5 _ rfl, g 6 _ rfl⟩
theorem int_cell {w wr : World} {b off k : Nat} {xs : List Int} (hb : Below w.heap.size w wr) (hbb : b < w.heap.size)
    (h : ∀ i x, xs[i]? = some x → ∀ j u, (enInt x)[j]? = some u → w.cell? ⟨b, off + i * 1 + j, none⟩ = some u) (hk : k < xs.length) :
    wr.cell? ⟨b, off + k, none⟩ = some (.int .i64 xs[k]) := by
  have := (hb.cell (p := ⟨b, _, none⟩) hbb).trans (h k xs[k] (by simp [hk]) 0 _ rfl)
  simpa using this

theorem take_eq_step {α : Type} {xs ys : List α} {k : Nat} (h : xs.take k = ys.take k) (hx : k < xs.length) (hy : k < ys.length) (he : xs[k] = ys[k]) : xs.take (k + 1) = ys.take (k + 1) := by
  rw [List.take_succ_eq_append_getElem hx, List.take_succ_eq_append_getElem hy, h, he]
theorem ne_of_get {α : Type} {xs ys : List α} {k : Nat} (hx : k < xs.length) (hy : k < ys.length) (he : xs[k] ≠ ys[k]) : xs ≠ ys := by
  intro h; subst h; exact he rfl

end Go.Proofs.YtalnnghnipoogaaDoor
