/- Texts of mine that come as one: OpenTree OpenTreeB OpenBase. -/
import Derived.Test.YtijcaejdgicbmaaDoorNG
import Derived.Test.YtijcaejdgicbmaaDoorNM
import Derived.Test.YtijcaejdgicbmaaDoorCP
import Derived.OpenShut
/- Arguments that are entries, nodes, trees, read as data. -/
namespace Go.Proofs.YtijcaejdgicbmaaDoor
open Go.ChangeShapes Go.WideShapes Go.ChangeAt Go.RowKit Go.Deep

theorem Tryd.cellsEnt : Tryd.prog.cellsOf 70 = 7 := by kernel_rfl
theorem Tryd.cellsNode : Tryd.prog.cellsOf 106 = 5 := by kernel_rfl
theorem Tryd.cellsTree : Tryd.prog.cellsOf 25 = 2 := by kernel_rfl
theorem Tryd.cellsBool : Tryd.prog.cellsOf 4 = 1 := by kernel_rfl
theorem Tryd.cellsEnts : Tryd.prog.cellsOf 50 = 1 := by kernel_rfl
theorem Tryd.cellsInts : Tryd.prog.cellsOf 77 = 1 := by kernel_rfl
theorem Tryd.cellsNodes : Tryd.prog.cellsOf 23 = 1 := by kernel_rfl
theorem Tryd.bytesEnt : Tryd.prog.bytesOf 70 = 56 := by kernel_rfl
theorem Tryd.bytesNode : Tryd.prog.bytesOf 106 = 104 := by kernel_rfl

section
variable {H : Type} {enc : TypeId × Value → H} {w : World} {base : Nat} {sp : Nat → Bool} {held : Bool}

set_option maxRecDepth 100000 in
theorem read_ent {fuel : Nat} {cs : List Value} {x : DataW H × List MemPlace} (h : DataW.trod enc Tryd.prog w base sp held fuel 70 cs = some x) : ∃ e : Ent, cs = enEnt e ∧ i64 e.key := by
  obtain ⟨xs, n, _, _, hl, hn, hf⟩ := DataW.trod_struct Tryd.underlying70 h
  rw [Tryd.cellsEnt] at hl
  match xs, hn with
  | [x0, x1], _ =>
    obtain ⟨a, ha, hb⟩ := read_int_at (hf 0 _ rfl)
    obtain ⟨r, hr⟩ := read_roll (hf 1 _ rfl)
    refine ⟨⟨a, r⟩, ?_, hb⟩
    change (cs.drop 1).take (Tryd.prog.cellsOf 41) = _ at hr
    change cs[0]? = _ at ha
    rw [Tryd.cellsRoll] at hr
    match cs, hl with
    | [c0, c1, c2, c3, c4, c5, c6], _ =>
      simp [Roll.cells] at ha hr
      simp [enEnt, ha, hr]
theorem read_ents {fuel : Nat} {cs : List Value} {x : DataW H × List MemPlace} (h : DataW.trod enc Tryd.prog w base sp held fuel 50 cs = some x) (hw : ∀ m ∈ x.1.weights Tryd.prog 50, m ≤ reachBytes) :
    ∃ (v : Value) (xs : List Ent), cs = [v] ∧ EntsAt w v xs ∧ ∀ a ∈ xs, i64 a.key :=
  read_slice enEnt (fun e => i64 e.key) Tryd.underlying50 Tryd.cellsEnt (by decide) Tryd.bytesEnt h hw fun _ _ _ h1 _ => read_ent h1

theorem raws_of {w : World} : ∀ rs : List Raw, (∀ r ∈ rs, ∃ x, NodeAt w r x) → ∃ xs, RawsAt w rs xs
  | [], _ => ⟨[], rfl, by simp⟩
  | r :: rs, h => by
    obtain ⟨x, hx⟩ := h r (by simp)
    obtain ⟨xs, hl, hxs⟩ := raws_of rs (fun r' hr' => h r' (by simp [hr']))
    refine ⟨x :: xs, by simp [hl], fun i r' x' hr' hx' => ?_⟩
    cases i with
    | zero => simp at hr' hx'; rw [← hr', ← hx']; exact hx
    | succ i => simp at hr' hx'; exact hxs i r' x' hr' hx'

set_option maxRecDepth 100000 in
theorem read_raw {fuel : Nat} {cs : List Value} {x : DataW H × List MemPlace} (h : DataW.trod enc Tryd.prog w base sp held fuel 106 cs = some x) (hw : ∀ m ∈ x.1.weights Tryd.prog 106, m ≤ reachBytes) :
    ∃ r : Raw, cs = enRaw r ∧ ∃ nd, NodeAt w r nd := by
  obtain ⟨xs, n, _, hx, hl, hn, hf⟩ := DataW.trod_struct Tryd.underlying106 h
  rw [Tryd.cellsNode] at hl
  match xs, hn with
  | [x0, x1, x2, x3, x4], _ =>
    rw [hx] at hw
    have hwe : ∀ (j : Nat) (t : TypeId) (d : DataW H), ((Tryd.prog.fieldsOf 106).toList.map (·.type))[j]? = some t → [x0.1, x1.1, x2.1, x3.1, x4.1][j]? = some d → ∀ m ∈ d.weights Tryd.prog t, m ≤ reachBytes := by
      intro j t d ht hd m hm
      refine hw m ?_
      simp only [DataW.weights, Tryd.underlying106]
      simp only [Program.fieldsOf, Tryd.underlying106] at ht
      exact DataW.weights_mem_each ht hd m hm
    obtain ⟨lf, e0, _⟩ := DataW.trod_bool Tryd.underlying4 (hf 0 _ rfl)
    obtain ⟨v1, y1, e1, s1, _⟩ := read_ents (hf 1 _ rfl) (hwe 1 _ _ (by kernel_rfl) rfl)
    obtain ⟨v2, y2, e2, s2, _⟩ := read_ints (hf 2 _ rfl) (hwe 2 _ _ (by kernel_rfl) rfl)
    obtain ⟨v3, y3, e3, s3, _⟩ := read_ints (hf 3 _ rfl) (hwe 3 _ _ (by kernel_rfl) rfl)
    obtain ⟨v4, y4, e4, s4, _⟩ := read_ents (hf 4 _ rfl) (hwe 4 _ _ (by kernel_rfl) rfl)
    change (cs.drop 0).take (Tryd.prog.cellsOf 4) = _ at e0
    change (cs.drop 1).take (Tryd.prog.cellsOf 50) = _ at e1
    change (cs.drop 2).take (Tryd.prog.cellsOf 77) = _ at e2
    change (cs.drop 3).take (Tryd.prog.cellsOf 77) = _ at e3
    change (cs.drop 4).take (Tryd.prog.cellsOf 50) = _ at e4
    rw [Tryd.cellsBool] at e0
    rw [Tryd.cellsEnts] at e1 e4
    rw [Tryd.cellsInts] at e2 e3
    refine ⟨⟨lf, v1, v2, v3, v4⟩, ?_, ⟨lf, y1, y2, y3, y4⟩, rfl, s1, s2, s3, s4⟩
    match cs, hl with
    | [c0, c1, c2, c3, c4], _ =>
      simp at e0 e1 e2 e3 e4
      simp [enRaw, e0, e1, e2, e3, e4]
theorem read_nodes {fuel : Nat} {cs : List Value} {x : DataW H × List MemPlace} (h : DataW.trod enc Tryd.prog w base sp held fuel 23 cs = some x) (hw : ∀ m ∈ x.1.weights Tryd.prog 23, m ≤ reachBytes) :
    ∃ (v : Value) (xs : List Nd), cs = [v] ∧ NodesAt w v xs := by
  obtain ⟨v, rs, e, hs, hq⟩ := read_slice enRaw (fun r => ∃ nd, NodeAt w r nd) Tryd.underlying23 Tryd.cellsNode (by decide) Tryd.bytesNode h hw fun _ _ _ h1 h2 => read_raw h1 h2
  obtain ⟨xs, hx⟩ := raws_of rs hq
  exact ⟨v, xs, e, rs, hs, hx⟩
end
end Go.Proofs.YtijcaejdgicbmaaDoor

/- An argument that is a tree, or a slice of entries, read as data. -/
namespace Go.Proofs.YtijcaejdgicbmaaDoor
open Go.ChangeShapes Go.WideShapes Go.ChangeAt Go.RowKit Go.Deep
section
variable {H : Type} {enc : TypeId × Value → H} {w : World} {base : Nat} {sp : Nat → Bool} {held : Bool}
set_option maxRecDepth 100000 in
theorem read_tree {fuel : Nat} {cs : List Value} {x : DataW H × List MemPlace} (h : DataW.trod enc Tryd.prog w base sp held fuel 25 cs = some x) (hw : ∀ m ∈ x.1.weights Tryd.prog 25, m ≤ reachBytes) :
    ∃ (t : Tr) (nv : Value), cs = [nv, .int .i64 t.root] ∧ NodesAt w nv t.nodes ∧ i64 t.root := by
  obtain ⟨xs, n, _, hx, hl, hn, hf⟩ := DataW.trod_struct Tryd.underlying25 h
  rw [Tryd.cellsTree] at hl
  match xs, hn with
  | [x0, x1], _ =>
    rw [hx] at hw
    have hwe : ∀ (j : Nat) (t : TypeId) (d : DataW H), ((Tryd.prog.fieldsOf 25).toList.map (·.type))[j]? = some t → [x0.1, x1.1][j]? = some d → ∀ m ∈ d.weights Tryd.prog t, m ≤ reachBytes := by
      intro j t d ht hd m hm
      refine hw m ?_
      simp only [DataW.weights, Tryd.underlying25]
      simp only [Program.fieldsOf, Tryd.underlying25] at ht
      exact DataW.weights_mem_each ht hd m hm
    obtain ⟨nv, ns, e0, s0⟩ := read_nodes (hf 0 _ rfl) (hwe 0 _ _ (by kernel_rfl) rfl)
    obtain ⟨a, ha, hb⟩ := read_int_at (hf 1 _ rfl)
    change (cs.drop 0).take (Tryd.prog.cellsOf 23) = _ at e0
    change cs[1]? = _ at ha
    rw [Tryd.cellsNodes] at e0
    refine ⟨⟨ns, a⟩, nv, ?_, s0, hb⟩
    match cs, hl with
    | [c0, c1], _ =>
      simp at e0 ha
      simp [e0, ha]
set_option maxRecDepth 100000 in
theorem open_tree' {r : Reach} {b0 : Nat} {v : Value} {d : DataW H} {p : List MemPlace} (hv : Value.okWide Tryd.prog w r b0 25 v) (h : DataW.Trod enc Tryd.prog w base sp held 25 v d p) (hw : ∀ m ∈ d.weights Tryd.prog 25, m ≤ reachBytes) :
    ∃ t : Tr, TreeAt w v t ∧ i64 t.root := by
  obtain ⟨cs, rfl, hsz⟩ := okWide_struct Tryd.underlying25 hv
  obtain ⟨fuel, hf⟩ := h
  obtain ⟨t, nv, hr, h1, h2⟩ := read_tree hf hw
  refine ⟨t, ⟨nv, ?_, h1⟩, h2⟩
  cases cs
  simp only [Value.cells] at hr
  rw [hr]
set_option maxRecDepth 100000 in
theorem open_ents' {r : Reach} {b0 : Nat} {v : Value} {d : DataW H} {p : List MemPlace} (hv : Value.okWide Tryd.prog w r b0 50 v) (h : DataW.Trod enc Tryd.prog w base sp held 50 v d p) (hw : ∀ m ∈ d.weights Tryd.prog 50, m ≤ reachBytes) :
    ∃ xs : List Ent, EntsAt w v xs ∧ ∀ a ∈ xs, i64 a.key := by
  obtain ⟨fuel, hf⟩ := h
  obtain ⟨v', xs, e, h1, h2⟩ := read_ents hf hw
  rw [slice_cell Tryd.underlying50 hv e]
  exact ⟨xs, h1, h2⟩
end
end Go.Proofs.YtijcaejdgicbmaaDoor

/- An argument that is a base, read as data. -/
namespace Go.Proofs.YtijcaejdgicbmaaDoor
open Go.ChangeShapes Go.WideShapes Go.ChangeAt Go.RowKit Go.Deep

theorem Tryd.cellsStr : Tryd.prog.cellsOf 9 = 1 := by kernel_rfl
theorem Tryd.cellsStrs : Tryd.prog.cellsOf 22 = 1 := by kernel_rfl
theorem Tryd.cellsTrees : Tryd.prog.cellsOf 26 = 6 := by kernel_rfl
theorem Tryd.cellsBase : Tryd.prog.cellsOf 28 = 8 := by kernel_rfl
theorem Tryd.bytesStr : Tryd.prog.bytesOf 9 = 16 := by kernel_rfl

section
variable {H : Type} {enc : TypeId × Value → H} {w : World} {base : Nat} {sp : Nat → Bool} {held : Bool}

set_option maxRecDepth 100000 in
theorem read_strs {fuel : Nat} {cs : List Value} {x : DataW H × List MemPlace} (h : DataW.trod enc Tryd.prog w base sp held fuel 22 cs = some x) (hw : ∀ m ∈ x.1.weights Tryd.prog 22, m ≤ reachBytes) :
    ∃ (v : Value) (xs : List ByteArray), cs = [v] ∧ StrsAt w v xs ∧ ∀ s ∈ xs, s.size ≤ 140737488351232 := by
  obtain ⟨v, xs, h1, h2, h3⟩ := read_slice enStr (fun s => s.size ≤ 140737488351232) Tryd.underlying22 Tryd.cellsStr (by decide) Tryd.bytesStr h hw (fun n cs' y hy hwy => by
    obtain ⟨s, e, hx, _⟩ := DataW.trod_string Tryd.underlying9 hy
    refine ⟨s, e, ?_⟩
    have := hwy s.data.toList.length (by rw [hx]; simp [DataW.weights])
    have e2 : s.data.toList.length = s.size := by simp
    unfold reachBytes at this
    omega)
  exact ⟨v, xs, h1, h2, h3⟩
set_option maxRecDepth 100000 in
theorem read_trees {fuel : Nat} {cs : List Value} {x : DataW H × List MemPlace} (h : DataW.trod enc Tryd.prog w base sp held fuel 26 cs = some x) (hw : ∀ m ∈ x.1.weights Tryd.prog 26, m ≤ reachBytes) :
    ∃ (t0 t1 t2 : Tr) (a0 a1 a2 : Value), cs = [a0, .int .i64 t0.root, a1, .int .i64 t1.root, a2, .int .i64 t2.root] ∧ NodesAt w a0 t0.nodes ∧ NodesAt w a1 t1.nodes ∧ NodesAt w a2 t2.nodes := by
  obtain ⟨xs, m, _, hx, hl, hn, hf⟩ := DataW.trod_array Tryd.underlying26 h
  rw [Tryd.cellsTrees] at hl
  match xs, hn with
  | [x0, x1, x2], _ =>
    rw [hx] at hw
    have hwe : ∀ d ∈ [x0.1, x1.1, x2.1], ∀ m ∈ d.weights Tryd.prog 25, m ≤ reachBytes := fun d hd m hm => by
      refine hw m ?_
      simp only [DataW.weights, Tryd.underlying26]
      exact weights_all (by simpa using hd) m hm
    have f0 := hf 0 (by decide)
    have f1 := hf 1 (by decide)
    have f2 := hf 2 (by decide)
    rw [Tryd.cellsTree] at f0 f1 f2
    obtain ⟨t0, a0, e0, s0, _⟩ := read_tree f0 (hwe _ (by simp))
    obtain ⟨t1, a1, e1, s1, _⟩ := read_tree f1 (hwe _ (by simp))
    obtain ⟨t2, a2, e2, s2, _⟩ := read_tree f2 (hwe _ (by simp))
    refine ⟨t0, t1, t2, a0, a1, a2, ?_, s0, s1, s2⟩
    match cs, hl with
    | [c0, c1, c2, c3, c4, c5], _ =>
      simp at e0 e1 e2
      simp [e0, e1, e2]
set_option maxRecDepth 100000 in
theorem read_base {fuel : Nat} {cs : List Value} {x : DataW H × List MemPlace} (h : DataW.trod enc Tryd.prog w base sp held fuel 28 cs = some x) (hw : ∀ m ∈ x.1.weights Tryd.prog 28, m ≤ reachBytes) :
    ∃ (b : Ba) (nv a0 a1 a2 : Value), cs = [nv, a0, .int .i64 b.t0.root, a1, .int .i64 b.t1.root, a2, .int .i64 b.t2.root, .int .i64 b.floor] ∧ StrsAt w nv b.names ∧ NodesAt w a0 b.t0.nodes ∧ NodesAt w a1 b.t1.nodes ∧ NodesAt w a2 b.t2.nodes ∧ i64 b.floor ∧ ∀ s ∈ b.names, s.size ≤ 140737488351232 := by
  obtain ⟨xs, n, _, hx, hl, hn, hf⟩ := DataW.trod_struct Tryd.underlying28 h
  rw [Tryd.cellsBase] at hl
  match xs, hn with
  | [x0, x1, x2], _ =>
    rw [hx] at hw
    have hwe : ∀ (j : Nat) (t : TypeId) (d : DataW H), ((Tryd.prog.fieldsOf 28).toList.map (·.type))[j]? = some t → [x0.1, x1.1, x2.1][j]? = some d → ∀ m ∈ d.weights Tryd.prog t, m ≤ reachBytes := by
      intro j t d ht hd m hm
      refine hw m ?_
      simp only [DataW.weights, Tryd.underlying28]
      simp only [Program.fieldsOf, Tryd.underlying28] at ht
      exact DataW.weights_mem_each ht hd m hm
    obtain ⟨nv, ns, e0, s0, s9⟩ := read_strs (hf 0 _ rfl) (hwe 0 _ _ (by kernel_rfl) rfl)
    obtain ⟨t0, t1, t2, a0, a1, a2, e1, g0, g1, g2⟩ := read_trees (hf 1 _ rfl) (hwe 1 _ _ (by kernel_rfl) rfl)
    obtain ⟨fl, e2, hfl⟩ := read_int_at (hf 2 _ rfl)
    change (cs.drop 0).take (Tryd.prog.cellsOf 22) = _ at e0
    change (cs.drop 1).take (Tryd.prog.cellsOf 26) = _ at e1
    change cs[7]? = _ at e2
    rw [Tryd.cellsStrs] at e0
    rw [Tryd.cellsTrees] at e1
    refine ⟨⟨ns, t0, t1, t2, fl⟩, nv, a0, a1, a2, ?_, s0, g0, g1, g2, hfl, s9⟩
    match cs, hl with
    | [c0, c1, c2, c3, c4, c5, c6, c7], _ =>
      simp at e0 e1 e2
      simp [e0, e1, e2]
set_option maxRecDepth 100000 in
theorem open_base' {r : Reach} {b0 : Nat} {v : Value} {d : DataW H} {p : List MemPlace} (hv : Value.okWide Tryd.prog w r b0 28 v) (h : DataW.Trod enc Tryd.prog w base sp held 28 v d p) (hw : ∀ m ∈ d.weights Tryd.prog 28, m ≤ reachBytes) :
    ∃ b : Ba, BaseAt w v b ∧ i64 b.floor ∧ ∀ s ∈ b.names, s.size ≤ 140737488351232 := by
  obtain ⟨cs, rfl, hsz⟩ := okWide_struct Tryd.underlying28 hv
  obtain ⟨fuel, hf⟩ := h
  obtain ⟨b, nv, a0, a1, a2, hr, h1, h2, h3, h4, h5⟩ := read_base hf hw
  refine ⟨b, ⟨nv, a0, a1, a2, ?_, h1, h2, h3, h4⟩, h5⟩
  cases cs
  simp only [Value.cells] at hr
  rw [hr]
end
end Go.Proofs.YtijcaejdgicbmaaDoor
