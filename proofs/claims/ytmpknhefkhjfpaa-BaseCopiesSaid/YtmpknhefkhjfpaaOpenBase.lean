/- An argument that is a base, read as data. -/
import Derived.Test.YtmpknhefkhjfpaaOpenTreeB
import Derived.Test.YtmpknhefkhjfpaaOpenStr
import Derived.Test.YtmpknhefkhjfpaaBaseC
import Derived.OpenShut
namespace Go.Proofs.Ytmpknhefkhjfpaa
open Go.ChangeShapes Go.WideShapes Go.ChangeAt Go.RowKit Go.Deep

theorem Try.cellsStr : Try.prog.cellsOf 9 = 1 := by kernel_rfl
theorem Try.cellsStrs : Try.prog.cellsOf 28 = 1 := by kernel_rfl
theorem Try.cellsTrees : Try.prog.cellsOf 29 = 6 := by kernel_rfl
theorem Try.cellsBase : Try.prog.cellsOf 31 = 8 := by kernel_rfl
theorem Try.bytesStr : Try.prog.bytesOf 9 = 16 := by kernel_rfl

section
variable {H : Type} {enc : TypeId × Value → H} {w : World} {base : Nat} {sp : Nat → Bool} {held : Bool}

set_option maxRecDepth 100000 in
theorem read_strs {fuel : Nat} {cs : List Value} {x : DataW H × List MemPlace} (h : DataW.trod enc Try.prog w base sp held fuel 28 cs = some x) (hw : ∀ m ∈ x.1.weights Try.prog 28, m ≤ reachBytes) :
    ∃ (v : Value) (xs : List ByteArray), cs = [v] ∧ StrsAt w v xs := by
  obtain ⟨v, xs, h1, h2, _⟩ := read_slice enStr (fun _ => True) Try.underlying28 Try.cellsStr (by decide) Try.bytesStr h hw (fun n cs' y hy _ => by
    obtain ⟨s, e, _⟩ := DataW.trod_string Try.underlying9 hy
    exact ⟨s, e, trivial⟩)
  exact ⟨v, xs, h1, h2⟩
set_option maxRecDepth 100000 in
theorem read_trees {fuel : Nat} {cs : List Value} {x : DataW H × List MemPlace} (h : DataW.trod enc Try.prog w base sp held fuel 29 cs = some x) (hw : ∀ m ∈ x.1.weights Try.prog 29, m ≤ reachBytes) :
    ∃ (t0 t1 t2 : Tr) (a0 a1 a2 : Value), cs = [a0, .int .i64 t0.root, a1, .int .i64 t1.root, a2, .int .i64 t2.root] ∧ NodesAt w a0 t0.nodes ∧ NodesAt w a1 t1.nodes ∧ NodesAt w a2 t2.nodes := by
  obtain ⟨xs, m, _, hx, hl, hn, hf⟩ := DataW.trod_array Try.underlying29 h
  rw [Try.cellsTrees] at hl
  match xs, hn with
  | [x0, x1, x2], _ =>
    rw [hx] at hw
    have hwe : ∀ d ∈ [x0.1, x1.1, x2.1], ∀ m ∈ d.weights Try.prog 24, m ≤ reachBytes := fun d hd m hm => by
      refine hw m ?_
      simp only [DataW.weights, Try.underlying29]
      exact weights_all (by simpa using hd) m hm
    have f0 := hf 0 (by decide)
    have f1 := hf 1 (by decide)
    have f2 := hf 2 (by decide)
    rw [Try.cellsTree] at f0 f1 f2
    obtain ⟨t0, a0, e0, s0, _⟩ := read_tree f0 (hwe _ (by simp))
    obtain ⟨t1, a1, e1, s1, _⟩ := read_tree f1 (hwe _ (by simp))
    obtain ⟨t2, a2, e2, s2, _⟩ := read_tree f2 (hwe _ (by simp))
    refine ⟨t0, t1, t2, a0, a1, a2, ?_, s0, s1, s2⟩
    match cs, hl with
    | [c0, c1, c2, c3, c4, c5], _ =>
      simp at e0 e1 e2
      simp [e0, e1, e2]
set_option maxRecDepth 100000 in
theorem read_base {fuel : Nat} {cs : List Value} {x : DataW H × List MemPlace} (h : DataW.trod enc Try.prog w base sp held fuel 31 cs = some x) (hw : ∀ m ∈ x.1.weights Try.prog 31, m ≤ reachBytes) :
    ∃ (b : Ba) (nv a0 a1 a2 : Value), cs = [nv, a0, .int .i64 b.t0.root, a1, .int .i64 b.t1.root, a2, .int .i64 b.t2.root, .int .i64 b.floor] ∧ StrsAt w nv b.names ∧ NodesAt w a0 b.t0.nodes ∧ NodesAt w a1 b.t1.nodes ∧ NodesAt w a2 b.t2.nodes ∧ i64 b.floor := by
  obtain ⟨xs, n, _, hx, hl, hn, hf⟩ := DataW.trod_struct Try.underlying31 h
  rw [Try.cellsBase] at hl
  match xs, hn with
  | [x0, x1, x2], _ =>
    rw [hx] at hw
    have hwe : ∀ (j : Nat) (t : TypeId) (d : DataW H), ((Try.prog.fieldsOf 31).toList.map (·.type))[j]? = some t → [x0.1, x1.1, x2.1][j]? = some d → ∀ m ∈ d.weights Try.prog t, m ≤ reachBytes := by
      intro j t d ht hd m hm
      refine hw m ?_
      simp only [DataW.weights, Try.underlying31]
      simp only [Program.fieldsOf, Try.underlying31] at ht
      exact DataW.weights_mem_each ht hd m hm
    obtain ⟨nv, ns, e0, s0⟩ := read_strs (hf 0 _ rfl) (hwe 0 _ _ (by kernel_rfl) rfl)
    obtain ⟨t0, t1, t2, a0, a1, a2, e1, g0, g1, g2⟩ := read_trees (hf 1 _ rfl) (hwe 1 _ _ (by kernel_rfl) rfl)
    obtain ⟨fl, e2, hfl⟩ := read_int_at (hf 2 _ rfl)
    change (cs.drop 0).take (Try.prog.cellsOf 28) = _ at e0
    change (cs.drop 1).take (Try.prog.cellsOf 29) = _ at e1
    change cs[7]? = _ at e2
    rw [Try.cellsStrs] at e0
    rw [Try.cellsTrees] at e1
    refine ⟨⟨ns, t0, t1, t2, fl⟩, nv, a0, a1, a2, ?_, s0, g0, g1, g2, hfl⟩
    match cs, hl with
    | [c0, c1, c2, c3, c4, c5, c6, c7], _ =>
      simp at e0 e1 e2
      simp [e0, e1, e2]
set_option maxRecDepth 100000 in
theorem open_base' {r : Reach} {b0 : Nat} {v : Value} {d : DataW H} {p : List MemPlace} (hv : Value.okWide Try.prog w r b0 31 v) (h : DataW.Trod enc Try.prog w base sp held 31 v d p) (hw : ∀ m ∈ d.weights Try.prog 31, m ≤ reachBytes) :
    ∃ b : Ba, BaseAt w v b ∧ i64 b.floor := by
  obtain ⟨cs, rfl, hsz⟩ := okWide_struct Try.underlying31 hv
  obtain ⟨fuel, hf⟩ := h
  obtain ⟨b, nv, a0, a1, a2, hr, h1, h2, h3, h4, h5⟩ := read_base hf hw
  refine ⟨b, ⟨nv, a0, a1, a2, ?_, h1, h2, h3, h4⟩, h5⟩
  cases cs
  simp only [Value.cells] at hr
  rw [hr]
end
end Go.Proofs.Ytmpknhefkhjfpaa
