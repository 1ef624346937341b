/- Arguments that are raw things (winnowerkeep.Raw), one or many, read as data. -/
import Derived.Test.YtggcinmjmkfboaaDoorMO
namespace Go.Proofs.YtggcinmjmkfboaaDoor
open Go.ChangeShapes Go.WideShapes Go.ChangeAt Go.RowKit Go.Deep

/-- Four numbers of 64 bits. -/
structure Rw where
  k : Int
  a : Int
  b : Int
  c : Int
def Rw.ok (r : Rw) : Prop := i64 r.k ∧ i64 r.a ∧ i64 r.b ∧ i64 r.c
def enRw (r : Rw) : List Value := [.int .i64 r.k, .int .i64 r.a, .int .i64 r.b, .int .i64 r.c]
abbrev RwsAt (w : World) (v : Value) (xs : List Rw) : Prop := SlAt 4 32 enRw w v xs
theorem Tryd.cellsRaw : Tryd.prog.cellsOf 23 = 4 := by kernel_rfl
theorem Tryd.bytesRaw : Tryd.prog.bytesOf 23 = 32 := by kernel_rfl

section
variable {H : Type} {enc : TypeId × Value → H} {w : World} {base : Nat} {sp : Nat → Bool} {held : Bool}

theorem list4 {α : Type} {cs : List α} {a b c d : α} (hl : cs.length = 4) (h0 : cs[0]? = some a) (h1 : cs[1]? = some b) (h2 : cs[2]? = some c) (h3 : cs[3]? = some d) : cs = [a, b, c, d] := by
  match cs, hl with
  | [x0, x1, x2, x3], _ => simp at h0 h1 h2 h3; simp [h0, h1, h2, h3]
set_option maxRecDepth 100000 in
theorem read_rw {fuel : Nat} {cs : List Value} {x : DataW H × List MemPlace} (h : DataW.trod enc Tryd.prog w base sp held fuel 23 cs = some x) : ∃ r : Rw, cs = enRw r ∧ r.ok := by
  obtain ⟨xs, n, _, _, hl, hn, hf⟩ := DataW.trod_struct Tryd.underlying23 h
  rw [Tryd.cellsRaw] at hl
  match xs, hn with
  | [x0, x1, x2, x3], _ =>
    obtain ⟨a, ha, ha'⟩ := read_int_at (hf 0 _ rfl)
    obtain ⟨b, hb, hb'⟩ := read_int_at (hf 1 _ rfl)
    obtain ⟨c, hc, hc'⟩ := read_int_at (hf 2 _ rfl)
    obtain ⟨d, hd, hd'⟩ := read_int_at (hf 3 _ rfl)
    exact ⟨⟨a, b, c, d⟩, list4 hl ha hb hc hd, ha', hb', hc', hd'⟩
set_option maxRecDepth 100000 in
theorem open_raw' {r : Reach} {b0 : Nat} {v : Value} {d : DataW H} {p : List MemPlace} (hv : Value.okWide Tryd.prog w r b0 23 v) (h : DataW.Trod enc Tryd.prog w base sp held 23 v d p) :
    ∃ r : Rw, v = .agg #[.int .i64 r.k, .int .i64 r.a, .int .i64 r.b, .int .i64 r.c] ∧ r.ok := by
  obtain ⟨cs, rfl, hsz⟩ := okWide_struct Tryd.underlying23 hv
  obtain ⟨fuel, hf⟩ := h
  obtain ⟨r, hr, hq⟩ := read_rw hf
  refine ⟨r, ?_, hq⟩
  cases cs
  simp only [Value.cells] at hr
  rw [hr]
  rfl
theorem read_rws {fuel : Nat} {cs : List Value} {x : DataW H × List MemPlace} (h : DataW.trod enc Tryd.prog w base sp held fuel 33 cs = some x) (hw : ∀ m ∈ x.1.weights Tryd.prog 33, m ≤ reachBytes) :
    ∃ (v : Value) (xs : List Rw), cs = [v] ∧ RwsAt w v xs ∧ ∀ a ∈ xs, a.ok :=
  read_slice enRw Rw.ok Tryd.underlying33 Tryd.cellsRaw (by decide) Tryd.bytesRaw h hw fun _ _ _ h1 _ => read_rw h1
set_option maxRecDepth 100000 in
theorem open_raws' {r : Reach} {b0 : Nat} {v : Value} {d : DataW H} {p : List MemPlace} (hv : Value.okWide Tryd.prog w r b0 33 v) (h : DataW.Trod enc Tryd.prog w base sp held 33 v d p) (hw : ∀ m ∈ d.weights Tryd.prog 33, m ≤ reachBytes) :
    ∃ xs : List Rw, RwsAt w v xs ∧ ∀ a ∈ xs, a.ok := by
  obtain ⟨fuel, hf⟩ := h
  obtain ⟨v', xs, e, h1, h2⟩ := read_rws hf hw
  rw [slice_cell Tryd.underlying33 hv e]
  exact ⟨xs, h1, h2⟩
end
end Go.Proofs.YtggcinmjmkfboaaDoor
