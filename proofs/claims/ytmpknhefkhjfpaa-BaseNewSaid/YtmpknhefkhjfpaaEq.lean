/- '==' and '!=' on rollups and entries, as the model runs them. -/
import Derived.Test.YtmpknhefkhjfpaaKit
import Derived.Test.YtmpknhefkhjfpaaPA
import Derived.Test.YtmpknhefkhjfpaaOpenSl
import Derived.Laws.StructEq
namespace Go.Proofs.Ytmpknhefkhjfpaa
open Go.RowKit

theorem below_dn {B : Nat} {a w : World} (h : Below B a w) (n : Nat) : Below B a (w.drewN n) := ⟨h.os, h.tape, h.output, h.size, h.block⟩

def enEnt (e : Ent) : List Value := [.int .i64 e.key, .int .i64 e.is.c, .int .i64 e.is.s, .int .i64 e.is.mi, .int .i64 e.is.ma, .int .i64 e.is.t, .int .i64 e.is.l]
abbrev EntsAt (w : World) (v : Value) (xs : List Ent) : Prop := SlAt 7 56 enEnt w v xs

theorem Try.sRoll : Try.prog.underlying 43 = some (.struct (Try.prog.fieldsOf 43)) := by kernel_rfl
theorem Try.sEnt : Try.prog.underlying 70 = some (.struct (Try.prog.fieldsOf 70)) := by kernel_rfl
theorem Try.hRoll : Try.prog.stoodInHeld 43 = false := by kernel_rfl
theorem Try.hEnt : Try.prog.stoodInHeld 70 = false := by kernel_rfl

set_option maxRecDepth 100000 in
theorem run_equalIn_roll (d : Nat) (a b : Roll) (w : World) : (Op.equalIn (d + 2) 43 (.agg #[.int .i64 a.c, .int .i64 a.s, .int .i64 a.mi, .int .i64 a.ma, .int .i64 a.t, .int .i64 a.l]) (.agg #[.int .i64 b.c, .int .i64 b.s, .int .i64 b.mi, .int .i64 b.ma, .int .i64 b.t, .int .i64 b.l])).run Try.prog w = .ok (decide (a = b)) w := by
  have u3 := Try.underlying3
  rw [run_equalIn_struct w (d + 1) 43 _ _ Try.sRoll Try.hRoll]
  simp only [Program.fieldsOf, Try.underlying43]
  go_simp
  obtain ⟨a0, a1, a2, a3, a4, a5⟩ := a
  obtain ⟨b0, b1, b2, b3, b4, b5⟩ := b
  simp only [Roll.mk.injEq]
  by_cases h0 : a0 = b0
  · by_cases h1 : a1 = b1
    · by_cases h2 : a2 = b2
      · by_cases h3 : a3 = b3
        · by_cases h4 : a4 = b4
          · by_cases h5 : a5 = b5 <;> simp [h0, h1, h2, h3, h4, h5]
          · simp [h0, h1, h2, h3, h4]
        · simp [h0, h1, h2, h3]
      · simp [h0, h1, h2]
    · simp [h0, h1]
  · simp [h0]

set_option maxRecDepth 100000 in
theorem run_equalIn_ent (d : Nat) (e f : Ent) (w : World) : (Op.equalIn (d + 3) 70 (.agg #[.int .i64 e.key, .int .i64 e.is.c, .int .i64 e.is.s, .int .i64 e.is.mi, .int .i64 e.is.ma, .int .i64 e.is.t, .int .i64 e.is.l]) (.agg #[.int .i64 f.key, .int .i64 f.is.c, .int .i64 f.is.s, .int .i64 f.is.mi, .int .i64 f.is.ma, .int .i64 f.is.t, .int .i64 f.is.l])).run Try.prog w = .ok (decide (e = f)) w := by
  have u3 := Try.underlying3
  have hr := fun w => run_equalIn_roll d e.is f.is w
  rw [run_equalIn_struct w (d + 2) 70 _ _ Try.sEnt Try.hEnt]
  simp only [Program.fieldsOf, Try.underlying70]
  go_simp
  obtain ⟨e0, e1⟩ := e
  obtain ⟨f0, f1⟩ := f
  simp only [Ent.mk.injEq]
  by_cases h0 : e0 = f0
  · by_cases h1 : e1 = f1 <;> simp [h0, h1]
  · simp [h0]

theorem run_eql_roll (a b : Roll) (w : World) : (binOp .eql 43 (.agg #[.int .i64 a.c, .int .i64 a.s, .int .i64 a.mi, .int .i64 a.ma, .int .i64 a.t, .int .i64 a.l]) (.agg #[.int .i64 b.c, .int .i64 b.s, .int .i64 b.mi, .int .i64 b.ma, .int .i64 b.t, .int .i64 b.l])).run Try.prog w = .ok (.bool (decide (a = b))) w := by
  rw [run_eql_struct, run_equalIn_roll 9998]; rfl
theorem run_neq_roll (a b : Roll) (w : World) : (binOp .neq 43 (.agg #[.int .i64 a.c, .int .i64 a.s, .int .i64 a.mi, .int .i64 a.ma, .int .i64 a.t, .int .i64 a.l]) (.agg #[.int .i64 b.c, .int .i64 b.s, .int .i64 b.mi, .int .i64 b.ma, .int .i64 b.t, .int .i64 b.l])).run Try.prog w = .ok (.bool (!decide (a = b))) w := by
  rw [run_neq_struct, run_equalIn_roll 9998]; rfl
theorem run_eql_ent (e f : Ent) (w : World) : (binOp .eql 70 (.agg #[.int .i64 e.key, .int .i64 e.is.c, .int .i64 e.is.s, .int .i64 e.is.mi, .int .i64 e.is.ma, .int .i64 e.is.t, .int .i64 e.is.l]) (.agg #[.int .i64 f.key, .int .i64 f.is.c, .int .i64 f.is.s, .int .i64 f.is.mi, .int .i64 f.is.ma, .int .i64 f.is.t, .int .i64 f.is.l])).run Try.prog w = .ok (.bool (decide (e = f))) w := by
  rw [run_eql_struct, run_equalIn_ent 9997]; rfl
theorem run_neq_ent (e f : Ent) (w : World) : (binOp .neq 70 (.agg #[.int .i64 e.key, .int .i64 e.is.c, .int .i64 e.is.s, .int .i64 e.is.mi, .int .i64 e.is.ma, .int .i64 e.is.t, .int .i64 e.is.l]) (.agg #[.int .i64 f.key, .int .i64 f.is.c, .int .i64 f.is.s, .int .i64 f.is.mi, .int .i64 f.is.ma, .int .i64 f.is.t, .int .i64 f.is.l])).run Try.prog w = .ok (.bool (!decide (e = f))) w := by
  rw [run_neq_struct, run_equalIn_ent 9997]; rfl
end Go.Proofs.Ytmpknhefkhjfpaa
