/- Arguments that are strings, read as data. -/
import Derived.Test.YtmpknhefkhjfpaaOpenSl
namespace Go.Proofs.Ytmpknhefkhjfpaa
open Go.ChangeShapes Go.WideShapes Go.ChangeAt Go.RowKit Go.Deep
set_option maxRecDepth 100000 in
theorem open_string' {H : Type} {enc : TypeId × Value → H} {w : World} {base : Nat} {sp : Nat → Bool} {held : Bool} {r : Reach} {b0 : Nat} {v : Value} {d : DataW H} {p : List MemPlace} (hv : Value.okWide Try.prog w r b0 9 v) (h : DataW.Trod enc Try.prog w base sp held 9 v d p) (hw : ∀ m ∈ d.weights Try.prog 9, m ≤ reachBytes) :
    ∃ s : ByteArray, v = .string s ∧ s.size ≤ 140737488351232 := by
  obtain ⟨s, rfl⟩ := okWide_string Try.underlying9 hv
  obtain ⟨fuel, hf⟩ := h
  obtain ⟨s', e, hx, _⟩ := DataW.trod_string Try.underlying9 hf
  obtain rfl : s = s' := by simpa [Value.cells] using e
  simp only [Prod.mk.injEq] at hx
  obtain ⟨rfl, _⟩ := hx
  refine ⟨s, rfl, ?_⟩
  have := hw s.data.toList.length (by simp [DataW.weights])
  have e2 : s.data.toList.length = s.size := by simp
  unfold reachBytes at this
  omega
end Go.Proofs.Ytmpknhefkhjfpaa
