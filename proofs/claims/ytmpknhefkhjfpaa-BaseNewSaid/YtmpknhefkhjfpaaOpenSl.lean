/- Arguments that are slices, read as data. -/
import Derived.Test.YtmpknhefkhjfpaaMem
namespace Go.Proofs.Ytmpknhefkhjfpaa
open Go.ChangeShapes Go.WideShapes Go.ChangeAt Go.RowKit Go.Deep

def enInt (n : Int) : List Value := [.int .i64 n]
def i64 (n : Int) : Prop := -9223372036854775808 ≤ n ∧ n ≤ 9223372036854775807
abbrev IntsAt (w : World) (v : Value) (xs : List Int) : Prop := SlAt 1 8 enInt w v xs

theorem weights_le {H : Type} {P : Program} {ts : List TypeId} {ds : List (DataW H)} (h : (DataW.weightsEach P ts ds).all (· ≤ reachBytes) = true) {j : Nat} {t : TypeId} {d : DataW H} (ht : ts[j]? = some t) (hd : ds[j]? = some d) :
    ∀ m ∈ d.weights P t, m ≤ reachBytes := by
  intro m hm
  have := List.all_eq_true.1 h m (DataW.weights_mem_each ht hd m hm)
  simpa using this

theorem Try.bytesInt : Try.prog.bytesOf 3 = 8 := by kernel_rfl

section
variable {H : Type} {enc : TypeId × Value → H} {w : World} {base : Nat} {sp : Nat → Bool} {held : Bool}

theorem read_int {n : Nat} {cs : List Value} {y : DataW H × List MemPlace} (h : DataW.trod enc Try.prog w base sp held n 3 cs = some y) : ∃ a : Int, cs = enInt a ∧ i64 a := by
  obtain ⟨a, e, _, hw⟩ := DataW.trod_int Try.underlying3 h
  exact ⟨a, e, wf_int hw⟩
theorem read_ints {fuel : Nat} {cs : List Value} {x : DataW H × List MemPlace} (h : DataW.trod enc Try.prog w base sp held fuel 62 cs = some x) (hw : ∀ m ∈ x.1.weights Try.prog 62, m ≤ reachBytes) :
    ∃ (v : Value) (xs : List Int), cs = [v] ∧ IntsAt w v xs ∧ ∀ a ∈ xs, i64 a :=
  read_slice enInt i64 Try.underlying62 Try.cellsInt (by decide) Try.bytesInt h hw fun _ _ _ h1 _ => read_int h1
set_option maxRecDepth 100000 in
/-- A value of a slice type is one cell. -/
theorem slice_cell {r : Reach} {b0 : Nat} {t e : TypeId} {v v' : Value} (ht : Try.prog.underlying t = some (.slice e)) (hv : Value.okWide Try.prog w r b0 t v) (h : v.cells.toList = [v']) : v = v' := by
  obtain ⟨a, len, cap, rfl⟩ := okWide_slice ht hv
  simpa [Value.cells] using h
set_option maxRecDepth 100000 in
theorem open_ints' {r : Reach} {b0 : Nat} {v : Value} {d : DataW H} {p : List MemPlace} (hv : Value.okWide Try.prog w r b0 62 v) (h : DataW.Trod enc Try.prog w base sp held 62 v d p) (hw : ∀ m ∈ d.weights Try.prog 62, m ≤ reachBytes) :
    ∃ xs : List Int, IntsAt w v xs ∧ ∀ a ∈ xs, i64 a := by
  obtain ⟨fuel, hf⟩ := h
  obtain ⟨v', xs, e, h1, h2⟩ := read_ints hf hw
  rw [slice_cell Try.underlying62 hv e]
  exact ⟨xs, h1, h2⟩
end
end Go.Proofs.Ytmpknhefkhjfpaa
