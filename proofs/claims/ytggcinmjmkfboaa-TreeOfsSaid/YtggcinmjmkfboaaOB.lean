/- Texts of mine that come as one: OpenTree OpenTreeB. -/
import Derived.Test.YtggcinmjmkfboaaNG
/- Arguments that are entries, nodes, trees, read as data. -/
namespace Go.Proofs.Ytggcinmjmkfboaa
open Go.ChangeShapes Go.WideShapes Go.ChangeAt Go.RowKit Go.Deep

theorem Try.cellsEnt : Try.prog.cellsOf 48 = 7 := by kernel_rfl
theorem Try.cellsNode : Try.prog.cellsOf 59 = 5 := by kernel_rfl
theorem Try.cellsTree : Try.prog.cellsOf 25 = 2 := by kernel_rfl
theorem Try.cellsBool : Try.prog.cellsOf 4 = 1 := by kernel_rfl
theorem Try.cellsEnts : Try.prog.cellsOf 22 = 1 := by kernel_rfl
theorem Try.cellsInts : Try.prog.cellsOf 57 = 1 := by kernel_rfl
theorem Try.cellsNodes : Try.prog.cellsOf 23 = 1 := by kernel_rfl
theorem Try.bytesEnt : Try.prog.bytesOf 48 = 56 := by kernel_rfl
theorem Try.bytesNode : Try.prog.bytesOf 59 = 104 := by kernel_rfl

section
variable {H : Type} {enc : TypeId × Value → H} {w : World} {base : Nat} {sp : Nat → Bool} {held : Bool}

set_option maxRecDepth 100000 in
theorem read_ent {fuel : Nat} {cs : List Value} {x : DataW H × List MemPlace} (h : DataW.trod enc Try.prog w base sp held fuel 48 cs = some x) : ∃ e : Ent, cs = enEnt e ∧ i64 e.key := by
  obtain ⟨xs, n, _, _, hl, hn, hf⟩ := DataW.trod_struct Try.underlying48 h
  rw [Try.cellsEnt] at hl
  match xs, hn with
  | [x0, x1], _ =>
    obtain ⟨a, ha, hb⟩ := read_int_at (hf 0 _ rfl)
    obtain ⟨r, hr⟩ := read_roll (hf 1 _ rfl)
    refine ⟨⟨a, r⟩, ?_, hb⟩
    change (cs.drop 1).take (Try.prog.cellsOf 38) = _ at hr
    change cs[0]? = _ at ha
    rw [Try.cellsRoll] at hr
    match cs, hl with
    | [c0, c1, c2, c3, c4, c5, c6], _ =>
      simp [Roll.cells] at ha hr
      simp [enEnt, ha, hr]
theorem read_ents {fuel : Nat} {cs : List Value} {x : DataW H × List MemPlace} (h : DataW.trod enc Try.prog w base sp held fuel 22 cs = some x) (hw : ∀ m ∈ x.1.weights Try.prog 22, m ≤ reachBytes) :
    ∃ (v : Value) (xs : List Ent), cs = [v] ∧ EntsAt w v xs ∧ ∀ a ∈ xs, i64 a.key :=
  read_slice enEnt (fun e => i64 e.key) Try.underlying22 Try.cellsEnt (by decide) Try.bytesEnt h hw fun _ _ _ h1 _ => read_ent h1

theorem raws_of {w : World} : ∀ rs : List Raw, (∀ r ∈ rs, ∃ x, NodeAt w r x) → ∃ xs, RawsAt w rs xs
  | [], _ => ⟨[], rfl, by simp⟩
  | r :: rs, h => by
    obtain ⟨x, hx⟩ := h r (by simp)
    obtain ⟨xs, hl, hxs⟩ := raws_of rs (fun r' hr' => h r' (by simp [hr']))
    refine ⟨x :: xs, by simp [hl], fun i r' x' hr' hx' => ?_⟩
    cases i with
    | zero => simp at hr' hx'; rw [← hr', ← hx']; exact hx
    | succ i => simp at hr' hx'; exact hxs i r' x' hr' hx'

set_option maxRecDepth 100000 in
theorem read_raw {fuel : Nat} {cs : List Value} {x : DataW H × List MemPlace} (h : DataW.trod enc Try.prog w base sp held fuel 59 cs = some x) (hw : ∀ m ∈ x.1.weights Try.prog 59, m ≤ reachBytes) :
    ∃ r : Raw, cs = enRaw r ∧ ∃ nd, NodeAt w r nd := by
  obtain ⟨xs, n, _, hx, hl, hn, hf⟩ := DataW.trod_struct Try.underlying59 h
  rw [Try.cellsNode] at hl
  match xs, hn with
  | [x0, x1, x2, x3, x4], _ =>
    rw [hx] at hw
    have hwe : ∀ (j : Nat) (t : TypeId) (d : DataW H), ((Try.prog.fieldsOf 59).toList.map (·.type))[j]? = some t → [x0.1, x1.1, x2.1, x3.1, x4.1][j]? = some d → ∀ m ∈ d.weights Try.prog t, m ≤ reachBytes := by
      intro j t d ht hd m hm
      refine hw m ?_
      simp only [DataW.weights, Try.underlying59]
      simp only [Program.fieldsOf, Try.underlying59] at ht
      exact DataW.weights_mem_each ht hd m hm
    obtain ⟨lf, e0, _⟩ := DataW.trod_bool Try.underlying4 (hf 0 _ rfl)
    obtain ⟨v1, y1, e1, s1, _⟩ := read_ents (hf 1 _ rfl) (hwe 1 _ _ (by kernel_rfl) rfl)
    obtain ⟨v2, y2, e2, s2, _⟩ := read_ints (hf 2 _ rfl) (hwe 2 _ _ (by kernel_rfl) rfl)
    obtain ⟨v3, y3, e3, s3, _⟩ := read_ints (hf 3 _ rfl) (hwe 3 _ _ (by kernel_rfl) rfl)
    obtain ⟨v4, y4, e4, s4, _⟩ := read_ents (hf 4 _ rfl) (hwe 4 _ _ (by kernel_rfl) rfl)
    change (cs.drop 0).take (Try.prog.cellsOf 4) = _ at e0
    change (cs.drop 1).take (Try.prog.cellsOf 22) = _ at e1
    change (cs.drop 2).take (Try.prog.cellsOf 57) = _ at e2
    change (cs.drop 3).take (Try.prog.cellsOf 57) = _ at e3
    change (cs.drop 4).take (Try.prog.cellsOf 22) = _ at e4
    rw [Try.cellsBool] at e0
    rw [Try.cellsEnts] at e1 e4
    rw [Try.cellsInts] at e2 e3
    refine ⟨⟨lf, v1, v2, v3, v4⟩, ?_, ⟨lf, y1, y2, y3, y4⟩, rfl, s1, s2, s3, s4⟩
    match cs, hl with
    | [c0, c1, c2, c3, c4], _ =>
      simp at e0 e1 e2 e3 e4
      simp [enRaw, e0, e1, e2, e3, e4]
theorem read_nodes {fuel : Nat} {cs : List Value} {x : DataW H × List MemPlace} (h : DataW.trod enc Try.prog w base sp held fuel 23 cs = some x) (hw : ∀ m ∈ x.1.weights Try.prog 23, m ≤ reachBytes) :
    ∃ (v : Value) (xs : List Nd), cs = [v] ∧ NodesAt w v xs := by
  obtain ⟨v, rs, e, hs, hq⟩ := read_slice enRaw (fun r => ∃ nd, NodeAt w r nd) Try.underlying23 Try.cellsNode (by decide) Try.bytesNode h hw fun _ _ _ h1 h2 => read_raw h1 h2
  obtain ⟨xs, hx⟩ := raws_of rs hq
  exact ⟨v, xs, e, rs, hs, hx⟩
end
end Go.Proofs.Ytggcinmjmkfboaa

/- An argument that is a tree, or a slice of entries, read as data. -/
namespace Go.Proofs.Ytggcinmjmkfboaa
open Go.ChangeShapes Go.WideShapes Go.ChangeAt Go.RowKit Go.Deep
section
variable {H : Type} {enc : TypeId × Value → H} {w : World} {base : Nat} {sp : Nat → Bool} {held : Bool}
set_option maxRecDepth 100000 in
theorem read_tree {fuel : Nat} {cs : List Value} {x : DataW H × List MemPlace} (h : DataW.trod enc Try.prog w base sp held fuel 25 cs = some x) (hw : ∀ m ∈ x.1.weights Try.prog 25, m ≤ reachBytes) :
    ∃ (t : Tr) (nv : Value), cs = [nv, .int .i64 t.root] ∧ NodesAt w nv t.nodes ∧ i64 t.root := by
  obtain ⟨xs, n, _, hx, hl, hn, hf⟩ := DataW.trod_struct Try.underlying25 h
  rw [Try.cellsTree] at hl
  match xs, hn with
  | [x0, x1], _ =>
    rw [hx] at hw
    have hwe : ∀ (j : Nat) (t : TypeId) (d : DataW H), ((Try.prog.fieldsOf 25).toList.map (·.type))[j]? = some t → [x0.1, x1.1][j]? = some d → ∀ m ∈ d.weights Try.prog t, m ≤ reachBytes := by
      intro j t d ht hd m hm
      refine hw m ?_
      simp only [DataW.weights, Try.underlying25]
      simp only [Program.fieldsOf, Try.underlying25] at ht
      exact DataW.weights_mem_each ht hd m hm
    obtain ⟨nv, ns, e0, s0⟩ := read_nodes (hf 0 _ rfl) (hwe 0 _ _ (by kernel_rfl) rfl)
    obtain ⟨a, ha, hb⟩ := read_int_at (hf 1 _ rfl)
    change (cs.drop 0).take (Try.prog.cellsOf 23) = _ at e0
    change cs[1]? = _ at ha
    rw [Try.cellsNodes] at e0
    refine ⟨⟨ns, a⟩, nv, ?_, s0, hb⟩
    match cs, hl with
    | [c0, c1], _ =>
      simp at e0 ha
      simp [e0, ha]
set_option maxRecDepth 100000 in
theorem open_tree' {r : Reach} {b0 : Nat} {v : Value} {d : DataW H} {p : List MemPlace} (hv : Value.okWide Try.prog w r b0 25 v) (h : DataW.Trod enc Try.prog w base sp held 25 v d p) (hw : ∀ m ∈ d.weights Try.prog 25, m ≤ reachBytes) :
    ∃ t : Tr, TreeAt w v t ∧ i64 t.root := by
  obtain ⟨cs, rfl, hsz⟩ := okWide_struct Try.underlying25 hv
  obtain ⟨fuel, hf⟩ := h
  obtain ⟨t, nv, hr, h1, h2⟩ := read_tree hf hw
  refine ⟨t, ⟨nv, ?_, h1⟩, h2⟩
  cases cs
  simp only [Value.cells] at hr
  rw [hr]
set_option maxRecDepth 100000 in
theorem open_ents' {r : Reach} {b0 : Nat} {v : Value} {d : DataW H} {p : List MemPlace} (hv : Value.okWide Try.prog w r b0 22 v) (h : DataW.Trod enc Try.prog w base sp held 22 v d p) (hw : ∀ m ∈ d.weights Try.prog 22, m ≤ reachBytes) :
    ∃ xs : List Ent, EntsAt w v xs ∧ ∀ a ∈ xs, i64 a.key := by
  obtain ⟨fuel, hf⟩ := h
  obtain ⟨v', xs, e, h1, h2⟩ := read_ents hf hw
  rw [slice_cell Try.underlying22 hv e]
  exact ⟨xs, h1, h2⟩
end
end Go.Proofs.Ytggcinmjmkfboaa
