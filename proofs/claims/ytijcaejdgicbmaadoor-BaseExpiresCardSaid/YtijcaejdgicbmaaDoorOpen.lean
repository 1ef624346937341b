/- Arguments read as data: what their cells hold. -/
import Derived.Test.YtijcaejdgicbmaaDoorGen
import Derived.Test.YtijcaejdgicbmaaDoorRows
import Derived.Test.YtijcaejdgicbmaaDoorPA
import Derived.Lib.SmallJoins
namespace Go.Proofs.YtijcaejdgicbmaaDoor
open Go.ChangeShapes Go.WideShapes Go.ChangeAt Go.RowKit

theorem Tryd.own : ownKnob Tryd.prog.godebug = none := by kernel_rfl
theorem Tryd.laidOut : laidOutB Tryd.prog = true := by kernel_rfl
theorem Tryd.cellsInt : Tryd.prog.cellsOf 3 = 1 := by kernel_rfl
theorem Tryd.cellsRoll : Tryd.prog.cellsOf 41 = 6 := by kernel_rfl

section
variable {H : Type} {enc : TypeId × Value → H} {w : World} {base : Nat} {sp : Nat → Bool} {held : Bool}

theorem take_one {α : Type} {cs : List α} {i : Nat} {v : α} (h : (cs.drop i).take 1 = [v]) : cs[i]? = some v := by
  have := congrArg (fun l => l[0]?) h
  simpa [List.getElem?_take] using this

theorem list6 {α : Type} {cs : List α} {a b c d e f : α} (hl : cs.length = 6) (h0 : cs[0]? = some a) (h1 : cs[1]? = some b) (h2 : cs[2]? = some c) (h3 : cs[3]? = some d) (h4 : cs[4]? = some e) (h5 : cs[5]? = some f) : cs = [a, b, c, d, e, f] := by
  match cs, hl with
  | [x0, x1, x2, x3, x4, x5], _ => simp at h0 h1 h2 h3 h4 h5; simp [h0, h1, h2, h3, h4, h5]

theorem wf_int {n : Int} (hw : (Lit.int .i64 n).wf = true) : -9223372036854775808 ≤ n ∧ n ≤ 9223372036854775807 := by
  simpa [Lit.wf, IntKind.min, IntKind.max, IntKind.signed, IntKind.bits] using hw

/-- An int field at its offset. -/
theorem read_int_at {fuel : Nat} {cs : List Value} {i : Nat} {x : DataW H × List MemPlace} (h : DataW.trod enc Tryd.prog w base sp held fuel 3 ((cs.drop i).take (Tryd.prog.cellsOf 3)) = some x) :
    ∃ n, cs[i]? = some (.int .i64 n) ∧ -9223372036854775808 ≤ n ∧ n ≤ 9223372036854775807 := by
  obtain ⟨n, e, _, hw⟩ := DataW.trod_int Tryd.underlying3 h
  rw [Tryd.cellsInt] at e
  exact ⟨n, take_one e, wf_int hw⟩

def Roll.cells (r : Roll) : List Value := [.int .i64 r.c, .int .i64 r.s, .int .i64 r.mi, .int .i64 r.ma, .int .i64 r.t, .int .i64 r.l]

theorem read_roll {fuel : Nat} {cs : List Value} {x : DataW H × List MemPlace} (h : DataW.trod enc Tryd.prog w base sp held fuel 41 cs = some x) : ∃ r : Roll, cs = r.cells := by
  obtain ⟨xs, n, _, _, hl, hn, hf⟩ := DataW.trod_struct Tryd.underlying41 h
  rw [Tryd.cellsRoll] at hl
  match xs, hn with
  | [x0, x1, x2, x3, x4, x5], _ =>
    obtain ⟨a, ha, _⟩ := read_int_at (hf 0 _ rfl)
    obtain ⟨b, hb, _⟩ := read_int_at (hf 1 _ rfl)
    obtain ⟨c, hc, _⟩ := read_int_at (hf 2 _ rfl)
    obtain ⟨d, hd, _⟩ := read_int_at (hf 3 _ rfl)
    obtain ⟨e, he, _⟩ := read_int_at (hf 4 _ rfl)
    obtain ⟨f, hf, _⟩ := read_int_at (hf 5 _ rfl)
    exact ⟨⟨a, b, c, d, e, f⟩, list6 hl ha hb hc hd he hf⟩

set_option maxRecDepth 100000 in
theorem open_roll {r : Reach} {b0 : Nat} {v : Value} {d : DataW H} {p : List MemPlace} (hv : Value.okWide Tryd.prog w r b0 41 v) (h : DataW.Trod enc Tryd.prog w base sp held 41 v d p) :
    ∃ r : Roll, v = .agg #[.int .i64 r.c, .int .i64 r.s, .int .i64 r.mi, .int .i64 r.ma, .int .i64 r.t, .int .i64 r.l] := by
  obtain ⟨cs, rfl, hsz⟩ := okWide_struct Tryd.underlying41 hv
  obtain ⟨fuel, hf⟩ := h
  obtain ⟨r, hr⟩ := read_roll hf
  refine ⟨r, ?_⟩
  cases cs
  simp only [Value.cells] at hr
  rw [hr]
  rfl
set_option maxRecDepth 100000 in
theorem open_int' {r : Reach} {b0 : Nat} {v : Value} {d : DataW H} {p : List MemPlace} (hv : Value.okWide Tryd.prog w r b0 3 v) (h : DataW.Trod enc Tryd.prog w base sp held 3 v d p) :
    ∃ n, v = .int .i64 n ∧ -9223372036854775808 ≤ n ∧ n ≤ 9223372036854775807 := by
  obtain ⟨n, rfl, _, _, hw⟩ := open_int Tryd.underlying3 hv h
  exact ⟨n, rfl, wf_int hw⟩
end
end Go.Proofs.YtijcaejdgicbmaaDoor
