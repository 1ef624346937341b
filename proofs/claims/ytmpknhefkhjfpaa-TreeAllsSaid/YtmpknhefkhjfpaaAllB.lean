/- The state of tree.All's closure, behind a call of 'merged' and two stores. -/
import Derived.Test.YtmpknhefkhjfpaaAllA
namespace Go.Proofs.Ytmpknhefkhjfpaa
open Go.RowKit

theorem vis_self {t : Tr} {f : Nat} {n a b : Int} {l : List Int} {h : Nat} (hv : vis t (f + 1) n a b = some (l, h)) : n ∈ l := by
  obtain ⟨x, hx⟩ := vis_at hv
  obtain ⟨_, ⟨_, _, rfl, _⟩ | ⟨_, _, l', h', _, rfl, _⟩⟩ := vis_inner hv hx <;> simp
theorem vis_few {t : Tr} {f : Nat} {n a b : Int} {l : List Int} {h : Nat} {x : Nd} (hv : vis t (f + 1) n a b = some (l, h)) (hx : t.at? n = some x) : x.buf.length + x.ents.length ≤ 14 := by
  have := vis_small hv n (vis_self hv)
  have hof : t.of n = x.ents ++ x.buf := by unfold Tr.of; rw [hx]
  rw [hof, List.length_append] at this; omega
theorem heap_set1 {w : World} {b : Nat} {u v : Value} {T : TypeId} {fr : Nat × Nat} (h : w.heap[b]? = some (.cells #[u] T fr)) : (w.setCell ⟨b, 0, none⟩ v).heap[b]? = some (.cells #[v] T fr) := by
  have := heap_setCell_same (off := 0) (v := v) h
  simpa using this
theorem AllAt.stored {w0 : World} {ob : Nat} {tv : Value} {root lo hi : Int} {wr w' : World} {st st' : Option (List Ent)} (h : AllAt w0 ob tv root lo hi wr st) {v v' : Value} {E : Int}
    (hv : wr.heap[ob]? = some (.cells #[v] 47)) (hT : Turn (fun b => v.ownBlock = some b) wr w') (hv' : ∀ b, v'.ownBlock = some b → v.ownBlock = some b ∨ wr.heap.size ≤ b) (hE : E = if st'.isSome then 0 else 1) (hlt' : ∀ b, v'.ownBlock = some b → b < w'.heap.size)
    (hO : ∀ es, st' = some es → OwnEnts (ob + 3) w' v' es) :
    AllAt w0 ob tv root lo hi ((w'.setCell ⟨ob, 0, none⟩ v').setCell ⟨ob + 1, 0, none⟩ (.int .i64 E)) st' ∧ AllTurn ob wr ((w'.setCell ⟨ob, 0, none⟩ v').setCell ⟨ob + 1, 0, none⟩ (.int .i64 E)) ∧
      ∀ b, OutRow ob ((w'.setCell ⟨ob, 0, none⟩ v').setCell ⟨ob + 1, 0, none⟩ (.int .i64 E)) b → v.ownBlock = some b ∨ wr.heap.size ≤ b := by
  have hl := h.lt
  have hz := h.size
  have hb := h.below.size
  have hT1 := hT.size
  obtain ⟨u, o1, o2, o3⟩ := h.out
  obtain rfl : u = v := by rw [hv] at o1; simpa using o1.symm
  have g : ∀ b, b < wr.heap.size → b ≤ ob + 2 → w'.heap[b]? = wr.heap[b]? := fun b hb1 hb2 => hT.block b hb1 (fun hx => by have := (o2 b hx).1; omega)
  have g2 : ∀ b, b ≠ ob → b ≠ ob + 1 → ((w'.setCell ⟨ob, 0, none⟩ v').setCell ⟨ob + 1, 0, none⟩ (.int .i64 E)).heap[b]? = w'.heap[b]? := fun b h1 h2 => by
    rw [Below.heap_setCell _ _ _ _ (by show b ≠ ob + 1; exact h2), Below.heap_setCell _ _ _ _ (by show b ≠ ob; exact h1)]
  have hout : ((w'.setCell ⟨ob, 0, none⟩ v').setCell ⟨ob + 1, 0, none⟩ (.int .i64 E)).heap[ob]? = some (.cells #[v'] 47) := by
    rw [Below.heap_setCell _ _ _ _ (by show ob ≠ ob + 1; omega)]
    exact heap_set1 ((g ob (by omega) (by omega)).trans hv)
  have hrow : ∀ b, OutRow ob ((w'.setCell ⟨ob, 0, none⟩ v').setCell ⟨ob + 1, 0, none⟩ (.int .i64 E)) b → u.ownBlock = some b ∨ wr.heap.size ≤ b := fun b ⟨x, hx1, hx2⟩ => by
    rw [hout] at hx1
    obtain rfl : v' = x := by simpa using hx1
    exact hv' b hx2
  refine ⟨⟨?_, hl, by simp [heap_setCell_size]; omega, ?_, ?_, ?_, ?_, ?_, v', hout, fun b hb' => ⟨?_, by simp [heap_setCell_size]; exact hlt' b hb'⟩, fun es he => ?_⟩, ⟨⟨?_, ?_, ?_, by simp [heap_setCell_size]; exact hT1, fun b hb1 hx => ?_⟩, fun b hb' => ?_⟩, hrow⟩
  · have h1 : Below w0.heap.size w0 w' := hT.below h.below hb (fun i hi => by have := (o2 i hi).1; omega)
    exact (h1.setCell (by show w0.heap.size ≤ ob; omega) _).setCell (by show w0.heap.size ≤ ob + 1; omega) _
  · rw [g2 _ (by omega) (by omega), g _ (by omega) (by omega)]; exact h.box
  · rw [g2 _ (by omega) (by omega), g _ (by omega) (by omega)]; exact h.low
  · rw [g2 _ (by omega) (by omega), g _ (by omega) (by omega)]; exact h.high
  · rw [hE]
    refine heap_set1 (u := .int .i64 (if st.isSome then 0 else 1)) ?_
    rw [Below.heap_setCell _ _ _ _ (by show ob + 1 ≠ ob; omega), g _ (by omega) (by omega)]; exact h.err
  · rw [g2 _ (by omega) (by omega), g _ (by omega) (by omega)]; exact h.walk
  · rcases hv' b hb' with h1 | h1
    · exact (o2 b h1).1
    · omega
  · exact (hO es he).block fun b hb' => g2 b (by rcases hv' b hb' with h1 | h1; have := (o2 b h1).1; omega; omega) (by rcases hv' b hb' with h1 | h1; have := (o2 b h1).1; omega; omega)
  · exact hT.os
  · exact hT.tape
  · exact hT.output
  · rw [g2 b (fun e => hx (.inl e)) (fun e => hx (.inr (.inl e)))]
    exact hT.block b hb1 (fun e => hx (.inr (.inr ⟨u, hv, e⟩)))
  · rcases hrow b hb' with h1 | h1
    · exact .inl ⟨u, hv, h1⟩
    · exact .inr h1
end Go.Proofs.Ytmpknhefkhjfpaa
