/- Worlds between which only some blocks have changed. -/
import Derived.Test.YtmpknhefkhjfpaaNodes
namespace Go.Proofs.Ytmpknhefkhjfpaa
open Go.RowKit

theorem heap_new (w : World) (o : Obj) {n : Nat} (h : n = w.heap.size) : (w.alloc o).heap[n]? = some o := by subst h; show (w.heap.push o)[w.heap.size]? = _; simp
/-- Of the blocks that were there only those of X may have changed. -/
structure Turn (X : Nat → Prop) (w w' : World) : Prop where
  os : w'.os = w.os
  tape : w'.tape = w.tape
  output : w'.output = w.output
  size : w.heap.size ≤ w'.heap.size
  block : ∀ b, b < w.heap.size → ¬ X b → w'.heap[b]? = w.heap[b]?
theorem Turn.refl (X : Nat → Prop) (w : World) : Turn X w w := ⟨rfl, rfl, rfl, Nat.le_refl _, fun _ _ _ => rfl⟩
theorem Turn.trans {X : Nat → Prop} {a b c : World} (h : Turn X a b) (k : Turn X b c) : Turn X a c :=
  ⟨k.os.trans h.os, k.tape.trans h.tape, k.output.trans h.output, Nat.le_trans h.size k.size, fun i hi hx => (k.block i (Nat.lt_of_lt_of_le hi h.size) hx).trans (h.block i hi hx)⟩
/-- .. where the second step may turn new blocks, too. -/
theorem Turn.trans' {X Y : Nat → Prop} {a b c : World} (h : Turn X a b) (k : Turn Y b c) (hy : ∀ i, i < a.heap.size → Y i → X i) : Turn X a c :=
  ⟨k.os.trans h.os, k.tape.trans h.tape, k.output.trans h.output, Nat.le_trans h.size k.size, fun i hi hx => (k.block i (Nat.lt_of_lt_of_le hi h.size) (fun hh => hx (hy i hi hh))).trans (h.block i hi hx)⟩
theorem Turn.mono {X Y : Nat → Prop} {a b : World} (h : Turn X a b) (hx : ∀ i, i < a.heap.size → X i → Y i) : Turn Y a b := ⟨h.os, h.tape, h.output, h.size, fun i hi hy => h.block i hi (fun hh => hy (hx i hi hh))⟩
theorem Turn.of {X : Nat → Prop} {B : Nat} {a b : World} (h : Below B a b) (hB : a.heap.size ≤ B) : Turn X a b := ⟨h.os, h.tape, h.output, h.size, fun i hi _ => h.block i (by omega)⟩
theorem Turn.alloc {X : Nat → Prop} {a w : World} (h : Turn X a w) (o : Obj) : Turn X a (w.alloc o) := h.trans (Turn.of ((Below.refl _ w).alloc (Nat.le_refl _) o) (Nat.le_refl _))
theorem Turn.drew {X : Nat → Prop} {a w : World} (h : Turn X a w) : Turn X a w.drew := ⟨h.os, h.tape, h.output, h.size, h.block⟩
theorem Turn.drewN {X : Nat → Prop} {a w : World} (h : Turn X a w) (n : Nat) : Turn X a (w.drewN n) := ⟨h.os, h.tape, h.output, h.size, h.block⟩
theorem Turn.setCell {X : Nat → Prop} {a w : World} (h : Turn X a w) {p : Addr} (hp : X p.block ∨ a.heap.size ≤ p.block) (u : Value) : Turn X a (w.setCell p u) :=
  ⟨h.os, h.tape, h.output, by rw [heap_setCell_size]; exact h.size, fun i hi hx => (Below.heap_setCell w p u i (fun e => by subst e; rcases hp with hp | hp; exact hx hp; omega)).trans (h.block i hi hx)⟩
/-- Below all that may turn nothing has changed. -/
theorem Turn.below {X : Nat → Prop} {B : Nat} {a b c : World} (h : Turn X b c) (hb : Below B a b) (hB : B ≤ b.heap.size) (hx : ∀ i, X i → B ≤ i) : Below B a c :=
  ⟨h.os.trans hb.os, h.tape.trans hb.tape, h.output.trans hb.output, Nat.le_trans hb.size h.size, fun k hk => (h.block k (by omega) (fun hh => by have := hx k hh; omega)).trans (hb.block k hk)⟩
theorem Turn.cell {X : Nat → Prop} {a b : World} (h : Turn X a b) {B : Nat} (hB : B < a.heap.size) (hx : ¬ X B) (o : Nat) : b.cell? ⟨B, o, none⟩ = a.cell? ⟨B, o, none⟩ := World.cell?_of_block (h.block B hB hx)
theorem Turn.frozen {X : Nat → Prop} {a b : World} (h : Turn X a b) {B : Nat} (hB : B < a.heap.size) (hx : ¬ X B) (o : Nat) : b.frozen? ⟨B, o, none⟩ = a.frozen? ⟨B, o, none⟩ := World.frozen?_of_block (h.block B hB hx)
/-- A block that stays: it is there, and holds what it held. -/
theorem Turn.keep {X : Nat → Prop} {a b : World} (h : Turn X a b) {B : Nat} (hB : B < a.heap.size) (hx : ¬ X B) :
    B < b.heap.size ∧ (∀ o, b.cell? ⟨B, o, none⟩ = a.cell? ⟨B, o, none⟩) ∧ (∀ o, b.frozen? ⟨B, o, none⟩ = a.frozen? ⟨B, o, none⟩) :=
  ⟨Nat.lt_of_lt_of_le hB h.size, h.cell hB hx, h.frozen hB hx⟩
end Go.Proofs.Ytmpknhefkhjfpaa
