/- Texts of mine that come as one: Same NodeGet. -/
import Derived.Test.YtalnnghnipoogaaDoorNG
import Derived.Test.YtalnnghnipoogaaDoorEnts
import Derived.Test.YtalnnghnipoogaaDoorPA
/- The walk of sameTree, of two trees that are the same. -/
namespace Go.Proofs.YtalnnghnipoogaaDoor
open Go.RowKit

end Go.Proofs.YtalnnghnipoogaaDoor

/- A node of a tree in memory, and what its slices hold, cell by cell. -/
namespace Go.Proofs.YtalnnghnipoogaaDoor
open Go.RowKit

theorem idx_node {ab aoff n cap j : Nat} {i : Int} (h : i = j) (hj : j < n) (w : World) : (Instr.indexAt 23 (.slice (some ⟨ab, aoff, none⟩) n cap) (.int .i64 i)).run Tryd.prog w = .ok (.pointer (some ⟨ab, aoff + j * 5, none⟩)) w := by
  subst h
  go_simp
theorem idx_int {ab aoff n cap j : Nat} {i : Int} (h : i = j) (hj : j < n) (w : World) : (Instr.indexAt 48 (.slice (some ⟨ab, aoff, none⟩) n cap) (.int .i64 i)).run Tryd.prog w = .ok (.pointer (some ⟨ab, aoff + j, none⟩)) w := by
  subst h
  go_simp
theorem idx_ents {ab aoff n cap j : Nat} {i : Int} (h : i = j) (hj : j < n) (w : World) : (Instr.indexAt 35 (.slice (some ⟨ab, aoff, none⟩) n cap) (.int .i64 i)).run Tryd.prog w = .ok (.pointer (some ⟨ab, aoff + j * 7, none⟩)) w := by
  subst h
  go_simp

theorem NodesAt.get {w : World} {nv : Value} {xs : List Nd} (h : NodesAt w nv xs) {i : Nat} {x : Nd} (hi : xs[i]? = some x) :
    ∃ nb noff cap r, nv = .slice (some ⟨nb, noff, none⟩) xs.length cap ∧ nb < w.heap.size ∧ NodeAt w r x ∧
      w.cell? ⟨nb, noff + i * 5, none⟩ = some (.bool r.leaf) ∧ w.cell? ⟨nb, noff + i * 5 + 1, none⟩ = some r.ev ∧ w.cell? ⟨nb, noff + i * 5 + 2, none⟩ = some r.kv ∧ w.cell? ⟨nb, noff + i * 5 + 3, none⟩ = some r.dv ∧ w.cell? ⟨nb, noff + i * 5 + 4, none⟩ = some r.bv := by
  obtain ⟨rs, ⟨ao, cap, rfl, h1, h2, h3, h4, h5⟩, hl, hn⟩ := h
  have hix := (List.getElem?_eq_some_iff.1 hi).1
  obtain ⟨nb, noff, rfl, hb, hc⟩ := h5 (by omega)
  have hr : rs[i]? = some (rs[i]'(by omega)) := by simp
  have g := hc i _ hr
  exact ⟨nb, noff, cap, rs[i]'(by omega), by rw [hl], hb, hn i _ x hr hi, by simpa using g 0 _ rfl, g 1 _ rfl, g 2 _ rfl, g 3 _ rfl, g 4 _ rfl⟩
theorem NodesAt.len {w : World} {nv : Value} {xs : List Nd} (h : NodesAt w nv xs) : (∃ ao cap, nv = .slice ao xs.length cap) ∧ xs.length ≤ 9223372036854775806 := by
  obtain ⟨rs, hs, hl, hn⟩ := h
  obtain ⟨ao, cap, rfl⟩ := hs.isSlice
  refine ⟨⟨ao, cap, by rw [hl]⟩, ?_⟩
  obtain ⟨_, _, _, _, _, h, _⟩ := hs
  omega
theorem IntsAt.get {w : World} {v : Value} {xs : List Int} (h : IntsAt w v xs) {i : Nat} {x : Int} (hi : xs[i]? = some x) :
    ∃ b off cap, v = .slice (some ⟨b, off, none⟩) xs.length cap ∧ b < w.heap.size ∧ w.cell? ⟨b, off + i, none⟩ = some (.int .i64 x) := by
  obtain ⟨ao, cap, rfl, h1, h2, h3, h4, h5⟩ := h
  have hix := (List.getElem?_eq_some_iff.1 hi).1
  obtain ⟨nb, noff, rfl, hb, hc⟩ := h5 (by omega)
  exact ⟨nb, noff, cap, rfl, hb, by simpa using hc i x hi 0 _ rfl⟩
theorem SlAt.len {α : Type} {k sz : Nat} {en : α → List Value} {w : World} {v : Value} {xs : List α} (h : SlAt k sz en w v xs) (hsz : 0 < sz) : xs.length ≤ 140737488351232 := by
  obtain ⟨ao, cap, rfl, h1, h2, h3, h4, h5⟩ := h
  have : xs.length * 1 ≤ xs.length * sz := Nat.mul_le_mul_left _ hsz
  omega
theorem at?_get {t : Tr} {n : Int} {x : Nd} (h : t.at? n = some x) : 0 ≤ n ∧ n.toNat < t.nodes.length ∧ t.nodes[n.toNat]? = some x := by
  unfold Tr.at? at h
  split at h
  · exact ⟨‹_›, (List.getElem?_eq_some_iff.1 h).1, h⟩
  · cases h
theorem at?_none {t : Tr} {n : Int} (h : t.at? n = none) : n < 0 ∨ (t.nodes.length : Int) ≤ n := by
  unfold Tr.at? at h
  split at h
  · have := List.getElem?_eq_none_iff.1 h; omega
  · omega
end Go.Proofs.YtalnnghnipoogaaDoor
