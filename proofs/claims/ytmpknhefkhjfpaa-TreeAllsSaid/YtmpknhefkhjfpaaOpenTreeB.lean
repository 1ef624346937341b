/- An argument that is a tree, or a slice of entries, read as data. -/
import Derived.Test.YtmpknhefkhjfpaaOpenTree
namespace Go.Proofs.Ytmpknhefkhjfpaa
open Go.ChangeShapes Go.WideShapes Go.ChangeAt Go.RowKit Go.Deep
section
variable {H : Type} {enc : TypeId × Value → H} {w : World} {base : Nat} {sp : Nat → Bool} {held : Bool}
set_option maxRecDepth 100000 in
theorem read_tree {fuel : Nat} {cs : List Value} {x : DataW H × List MemPlace} (h : DataW.trod enc Try.prog w base sp held fuel 24 cs = some x) (hw : ∀ m ∈ x.1.weights Try.prog 24, m ≤ reachBytes) :
    ∃ (t : Tr) (nv : Value), cs = [nv, .int .i64 t.root] ∧ NodesAt w nv t.nodes ∧ i64 t.root := by
  obtain ⟨xs, n, _, hx, hl, hn, hf⟩ := DataW.trod_struct Try.underlying24 h
  rw [Try.cellsTree] at hl
  match xs, hn with
  | [x0, x1], _ =>
    rw [hx] at hw
    have hwe : ∀ (j : Nat) (t : TypeId) (d : DataW H), ((Try.prog.fieldsOf 24).toList.map (·.type))[j]? = some t → [x0.1, x1.1][j]? = some d → ∀ m ∈ d.weights Try.prog t, m ≤ reachBytes := by
      intro j t d ht hd m hm
      refine hw m ?_
      simp only [DataW.weights, Try.underlying24]
      simp only [Program.fieldsOf, Try.underlying24] at ht
      exact DataW.weights_mem_each ht hd m hm
    obtain ⟨nv, ns, e0, s0⟩ := read_nodes (hf 0 _ rfl) (hwe 0 _ _ (by kernel_rfl) rfl)
    obtain ⟨a, ha, hb⟩ := read_int_at (hf 1 _ rfl)
    change (cs.drop 0).take (Try.prog.cellsOf 22) = _ at e0
    change cs[1]? = _ at ha
    rw [Try.cellsNodes] at e0
    refine ⟨⟨ns, a⟩, nv, ?_, s0, hb⟩
    match cs, hl with
    | [c0, c1], _ =>
      simp at e0 ha
      simp [e0, ha]
set_option maxRecDepth 100000 in
theorem open_tree' {r : Reach} {b0 : Nat} {v : Value} {d : DataW H} {p : List MemPlace} (hv : Value.okWide Try.prog w r b0 24 v) (h : DataW.Trod enc Try.prog w base sp held 24 v d p) (hw : ∀ m ∈ d.weights Try.prog 24, m ≤ reachBytes) :
    ∃ t : Tr, TreeAt w v t ∧ i64 t.root := by
  obtain ⟨cs, rfl, hsz⟩ := okWide_struct Try.underlying24 hv
  obtain ⟨fuel, hf⟩ := h
  obtain ⟨t, nv, hr, h1, h2⟩ := read_tree hf hw
  refine ⟨t, ⟨nv, ?_, h1⟩, h2⟩
  cases cs
  simp only [Value.cells] at hr
  rw [hr]
set_option maxRecDepth 100000 in
theorem open_ents' {r : Reach} {b0 : Nat} {v : Value} {d : DataW H} {p : List MemPlace} (hv : Value.okWide Try.prog w r b0 47 v) (h : DataW.Trod enc Try.prog w base sp held 47 v d p) (hw : ∀ m ∈ d.weights Try.prog 47, m ≤ reachBytes) :
    ∃ xs : List Ent, EntsAt w v xs ∧ ∀ a ∈ xs, i64 a.key := by
  obtain ⟨fuel, hf⟩ := h
  obtain ⟨v', xs, e, h1, h2⟩ := read_ents hf hw
  rw [slice_cell Try.underlying47 hv e]
  exact ⟨xs, h1, h2⟩
end
end Go.Proofs.Ytmpknhefkhjfpaa
