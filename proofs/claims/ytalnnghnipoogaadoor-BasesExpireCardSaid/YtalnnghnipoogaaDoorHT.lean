/- Texts of mine that come as one: Height HeightB HeightC Fault. -/
import Derived.Test.YtalnnghnipoogaaDoorPA
import Derived.Test.YtalnnghnipoogaaDoorSN
import Derived.Test.YtalnnghnipoogaaDoorMay
import Derived.StillTailTactics
import Derived.Deep.CutBlock
import Derived.Laws.OwnMore
import Derived.OwnWalk
/- The walk of the document's height of a node. -/
namespace Go.Proofs.YtalnnghnipoogaaDoor
open Go.RowKit

def SeenAt (w : World) (sb N : Nat) (S : List Int) : Prop := sb < w.heap.size ∧ ∀ i : Nat, i < N → w.cell? ⟨sb, i, none⟩ = some (.int .i64 (if (i : Int) ∈ S then 1 else 0)) ∧ w.frozen? ⟨sb, i, none⟩ = false
theorem SeenAt.turn {w w' : World} {sb N : Nat} {S : List Int} (h : SeenAt w sb N S) {X : Nat → Prop} (ht : Turn X w w') (hx : ¬ X sb) : SeenAt w' sb N S :=
  ⟨Nat.lt_of_lt_of_le h.1 ht.size, fun i hi => ⟨(ht.cell h.1 hx i).trans (h.2 i hi).1, (ht.frozen h.1 hx i).trans (h.2 i hi).2⟩⟩
theorem SeenAt.set {w : World} {sb N : Nat} {S : List Int} (h : SeenAt w sb N S) {n : Int} {j : Nat} (hj : n = j) (hn : j < N) : SeenAt (w.setCell ⟨sb, j, none⟩ (.int .i64 1)) sb N (n :: S) := by
  refine ⟨by rw [heap_setCell_size]; exact h.1, fun i hi => ?_⟩
  by_cases hij : i = j
  · subst hij
    refine ⟨?_, ?_⟩
    · rw [World.cell?_setCell_same' _ _ _ (by rw [(h.2 i hi).1]; rfl), if_pos (by simp [hj])]
    · rw [← (h.2 i hi).2]; simp [World.frozen?, World.setCell, Array.getElem?_modify]
      cases w.heap[sb]? with
      | none => rfl
      | some o => cases o <;> rfl
  · refine ⟨?_, ?_⟩
    · rw [World.cell?_setCell_other _ _ _ _ (by simp), (h.2 i hi).1]
      have : ((i : Int) ∈ n :: S) ↔ (i : Int) ∈ S := by simp [hj]; omega
      simp only [this]
    · rw [← (h.2 i hi).2]; simp [World.frozen?, World.setCell, Array.getElem?_modify]
      cases w.heap[sb]? with
      | none => rfl
      | some o => cases o <;> rfl

theorem node_later {w0 w : World} {nv : Value} {xs : List Nd} (h : NodesAt w0 nv xs) (hb : Below w0.heap.size w0 w) {i : Nat} {x : Nd} (hi : xs[i]? = some x) :
    ∃ nb noff cap ev kv dv bv, nv = .slice (some ⟨nb, noff, none⟩) xs.length cap ∧ nb < w0.heap.size ∧ EntsAt w0 ev x.ents ∧ IntsAt w0 kv x.keys ∧ IntsAt w0 dv x.kids ∧ EntsAt w0 bv x.buf ∧
      w.cell? ⟨nb, noff + i * 5, none⟩ = some (.bool x.leaf) ∧ w.cell? ⟨nb, noff + i * 5 + 1, none⟩ = some ev ∧ w.cell? ⟨nb, noff + i * 5 + 2, none⟩ = some kv ∧ w.cell? ⟨nb, noff + i * 5 + 3, none⟩ = some dv ∧ w.cell? ⟨nb, noff + i * 5 + 4, none⟩ = some bv := by
  obtain ⟨nb, noff, cap, r, e, hnb, ⟨h1, h2, h3, h4, h5⟩, c0, c1, c2, c3, c4⟩ := h.get hi
  have g : ∀ o, w.cell? ⟨nb, o, none⟩ = w0.cell? ⟨nb, o, none⟩ := fun o => hb.cell (p := ⟨nb, o, none⟩) hnb
  exact ⟨nb, noff, cap, r.ev, r.kv, r.dv, r.bv, e, hnb, h2, h3, h4, h5, by rw [g, c0, h1], by rw [g, c1], by rw [g, c2], by rw [g, c3], by rw [g, c4]⟩

end Go.Proofs.YtalnnghnipoogaaDoor

/- The walk of the document's height of a node that is a leaf. -/
namespace Go.Proofs.YtalnnghnipoogaaDoor
open Go.RowKit

end Go.Proofs.YtalnnghnipoogaaDoor

/- The walk of the document's height of a node that has kids. -/
namespace Go.Proofs.YtalnnghnipoogaaDoor
open Go.RowKit

end Go.Proofs.YtalnnghnipoogaaDoor

/- The walk of the document's TreeFault. -/
namespace Go.Proofs.YtalnnghnipoogaaDoor
open Go.RowKit

end Go.Proofs.YtalnnghnipoogaaDoor
