/- What all walks share: imports, and small laws. -/
import Derived.Test.YtbfadgkdhhkpeaaProg
import Derived.Test.YtbfadgkdhhkpeaaPlain
import Derived.WalkKit
import Derived.WalkLawsBesides
import Derived.WalkSpells
import Derived.BigQuiet
import Derived.Deep.QuietTactic
import Derived.Deep.DeepCutAuto
import Derived.Lib.Hide
import Derived.Deep.LoopGhost
import Derived.Outline
namespace Go.Proofs.Ytbfadgkdhhkpeaa
open Go.RowKit

abbrev Roll.v (r : Roll) : Value := .agg #[.int .i64 r.c, .int .i64 r.s, .int .i64 r.mi, .int .i64 r.ma, .int .i64 r.t, .int .i64 r.l]
theorem ret_int {k : IntKind} {a b : Int} (h : a = b) : Ending.returned (.int k a) = .returned (.int k b) := by rw [h]
theorem ret_bool {a b : Bool} (h : a = b) : Ending.returned (.bool a) = .returned (.bool b) := by rw [h]

theorem bcell {W w1 : World} (hb : Below W.heap.size W w1) : (∀ b o, b < W.heap.size → w1.cell? ⟨b, o, none⟩ = W.cell? ⟨b, o, none⟩) ∧ (∀ b o, b < W.heap.size → w1.frozen? ⟨b, o, none⟩ = W.frozen? ⟨b, o, none⟩) :=
  ⟨fun b o h => hb.cell (p := ⟨b, o, none⟩) h, fun b o h => hb.frozen (p := ⟨b, o, none⟩) h⟩

/-- A block of before a call that leaves what was there: it is there, and holds what it held. -/
theorem keep1 {W w2 : World} (hb : Below W.heap.size W w2) {B : Nat} (hB : B < W.heap.size) :
    B < w2.heap.size ∧ (∀ o, w2.cell? ⟨B, o, none⟩ = W.cell? ⟨B, o, none⟩) ∧ (∀ o, w2.frozen? ⟨B, o, none⟩ = W.frozen? ⟨B, o, none⟩) :=
  ⟨Nat.lt_of_lt_of_le hB hb.size, fun o => hb.cell (p := ⟨B, o, none⟩) hB, fun o => hb.frozen (p := ⟨B, o, none⟩) hB⟩

/-- The builtins min and max on two ints, as one word: no test for the walk to part on. -/
@[go_sem high] theorem run_min_one {P : Program} {w : World} (ts : Array TypeId) (t : TypeId) (k k' : IntKind) (x y : Int) : (Builtin.min_ ts t #[.int k x, .int k' y]).run P w = .ok (.int k (min x y)) w := by
  rw [run_min_int2]; congr 2; omega
@[go_sem high] theorem run_max_one {P : Program} {w : World} (ts : Array TypeId) (t : TypeId) (k k' : IntKind) (x y : Int) : (Builtin.max_ ts t #[.int k x, .int k' y]).run P w = .ok (.int k (max x y)) w := by
  rw [run_max_int2]; congr 2; omega
end Go.Proofs.Ytbfadgkdhhkpeaa
