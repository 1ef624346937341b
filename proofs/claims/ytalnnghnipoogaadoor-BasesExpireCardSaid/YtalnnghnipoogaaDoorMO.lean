/- Texts of mine that come as one: Mem OpenSl. -/
import Derived.Test.YtalnnghnipoogaaDoorGE
import Derived.Deep.Slices
/- Slices in memory: 'the slice value v holds these elements'. -/
namespace Go.Proofs.YtalnnghnipoogaaDoor
open Go.ChangeShapes Go.WideShapes Go.ChangeAt Go.RowKit Go.Deep

def SlAt {α : Type} (k sz : Nat) (en : α → List Value) (w : World) (v : Value) (xs : List α) : Prop :=
  ∃ ao cap, v = .slice ao xs.length cap ∧ xs.length ≤ cap ∧ cap ≤ 9223372036854775807 ∧ xs.length * sz ≤ 140737488351232 ∧ (ao = none → cap = 0) ∧
    (0 < xs.length → ∃ b off, ao = some ⟨b, off, none⟩ ∧ b < w.heap.size ∧ ∀ i x, xs[i]? = some x → ∀ j u, (en x)[j]? = some u → w.cell? ⟨b, off + i * k + j, none⟩ = some u)

theorem SlAt.below {α : Type} {k sz : Nat} {en : α → List Value} {w w' : World} {v : Value} {xs : List α} (h : SlAt k sz en w v xs) {B : Nat} (hb : Below B w w') (hB : w.heap.size ≤ B) : SlAt k sz en w' v xs := by
  obtain ⟨ao, cap, rfl, h1, h2, h3, h4, h5⟩ := h
  refine ⟨ao, cap, rfl, h1, h2, h3, h4, fun h => ?_⟩
  obtain ⟨b, off, rfl, hlt, hc⟩ := h5 h
  exact ⟨b, off, rfl, Nat.lt_of_lt_of_le hlt hb.size, fun i x hx j u hu => (hb.cell (p := ⟨b, _, none⟩) (by show b < B; omega)).trans (hc i x hx j u hu)⟩

theorem SlAt.nil {α : Type} (k sz : Nat) (en : α → List Value) (w : World) : SlAt k sz en w (.slice none 0 0) ([] : List α) := ⟨none, 0, rfl, by simp, by simp, by simp, fun _ => rfl, by simp⟩

section
variable {H : Type} {enc : TypeId × Value → H} {P : Program} {w : World} {base : Nat} {sp : Nat → Bool} {held : Bool}

theorem weights_all {e : TypeId} : ∀ {ds : List (DataW H)} {d : DataW H}, d ∈ ds → ∀ m ∈ d.weights P e, m ∈ DataW.weightsAll P e ds
  | d' :: ds, d, hd, m, hm => by
    simp only [DataW.weightsAll, List.mem_append]
    rcases List.mem_cons.1 hd with rfl | hd
    · exact .inl hm
    · exact .inr (weights_all hd m hm)

theorem cells_lt {b : Nat} {o : Nat} {u : Value} (h : w.cell? ⟨b, o, none⟩ = some u) : b < w.heap.size := by
  by_cases hb : b < w.heap.size
  · exact hb
  · simp [World.cell?, Array.getElem?_eq_none (Nat.le_of_not_lt hb)] at h

theorem add_cell {a : Addr} {i j : Nat} {u : Value} (h : w.cell? ((a.add i).add j) = some u) : a.spot = none ∨ 0 < i ∨ 0 < j := by
  by_cases hi : i = 0
  · by_cases hj : j = 0
    · subst hi; subst hj
      left
      obtain ⟨b, o, s⟩ := a
      cases s with
      | none => rfl
      | some s => simp [Addr.add, World.cell?] at h; split at h <;> simp at h
    · exact .inr (.inr (by omega))
  · exact .inr (.inl (by omega))

theorem read_slice {α : Type} {t e : TypeId} {k sz fuel : Nat} {cs : List Value} {x : DataW H × List MemPlace} (en : α → List Value) (Q : α → Prop)
    (ht : P.underlying t = some (.slice e)) (hk : P.cellsOf e = k) (hk0 : 0 < k) (hsz : P.bytesOf e = sz)
    (h : DataW.trod enc P w base sp held fuel t cs = some x) (hw : ∀ m ∈ x.1.weights P t, m ≤ reachBytes)
    (hel : ∀ (n : Nat) (cs' : List Value) (y : DataW H × List MemPlace), DataW.trod enc P w base sp held n e cs' = some y → (∀ m ∈ y.1.weights P e, m ≤ reachBytes) → ∃ a : α, cs' = en a ∧ Q a) :
    ∃ (v : Value) (xs : List α), cs = [v] ∧ SlAt k sz en w v xs ∧ ∀ a ∈ xs, Q a := by
  rcases open_slice ht h with ⟨rfl, _⟩ | ⟨a, len, cap, m, n, D, Pl, rfl, _, hl, hm, hmm, rfl, hx⟩
  · exact ⟨_, [], rfl, SlAt.nil _ _ _ _, by simp⟩
  · simp only [DataW.weights, ht] at hw
    have hlm : len ≤ m := by rw [hmm]; split <;> omega
    have hel' : ∀ i, i < len → ∃ z : α, ∃ cs', w.cells? base (a.add (i * k)) k = some cs' ∧ cs' = en z ∧ Q z := by
      intro i hi
      obtain ⟨cs', h1, h2⟩ := hx i (by omega)
      rw [hk] at h1
      obtain ⟨z, hz, hq⟩ := hel n cs' _ h2 (fun m' hm' => hw m' (by
        simp only [List.mem_cons, List.mem_append]
        exact .inr (.inl (weights_all (List.mem_map.2 ⟨i, List.mem_range.2 hi, rfl⟩) m' hm'))))
      exact ⟨z, cs', h1, hz, hq⟩
    obtain ⟨F, hF⟩ : ∃ F : (i : Nat) → i < len → α, ∀ i (hi : i < len), ∃ cs', w.cells? base (a.add (i * k)) k = some cs' ∧ cs' = en (F i hi) ∧ Q (F i hi) :=
      ⟨fun i hi => Classical.choose (hel' i hi), fun i hi => Classical.choose_spec (hel' i hi)⟩
    have hlen : (List.ofFn fun i : Fin len => F i.1 i.2).length = len := by simp
    have hbytes := hw _ (List.mem_cons_self ..)
    simp only [List.length_map, List.length_range, hsz] at hbytes
    refine ⟨_, List.ofFn fun i : Fin len => F i.1 i.2, rfl, ⟨some a, cap, by rw [hlen], by omega, by unfold maxLen at hm; omega, ?_, by simp, ?_⟩, ?_⟩
    · rw [hlen]
      have : len * sz ≤ (len + (m - len)) * sz := Nat.mul_le_mul_right _ (by omega)
      unfold reachBytes at hbytes
      omega
    · rw [hlen]
      intro h0
      obtain ⟨cs0, c0, e0, _⟩ := hF 0 h0
      obtain ⟨_, l0, g0⟩ := World.cells?_some c0
      obtain ⟨u0, hu0⟩ : ∃ u, cs0[0]? = some u := ⟨cs0[0]'(by omega), by simp [show 0 < cs0.length by omega]⟩
      have q0 := (g0 0 (by omega)).trans hu0
      have hspot : a.spot = none := by
        have := add_cell q0
        rcases this with h | h | h <;> first | exact h | omega
      obtain ⟨b, off, s⟩ := a
      simp only at hspot
      subst hspot
      refine ⟨b, off, rfl, ?_, ?_⟩
      · simp only [Addr.add] at q0
        exact cells_lt (by simpa using q0)
      · intro i x hxi j u hu
        obtain ⟨hi, hxe⟩ := List.getElem?_eq_some_iff.1 hxi
        rw [hlen] at hi
        obtain ⟨csi, ci, ei, _⟩ := hF i hi
        obtain ⟨_, li, gi⟩ := World.cells?_some ci
        have hxe' : x = F i hi := by rw [← hxe]; simp
        rw [hxe', ← ei] at hu
        have hj : j < k := by
          have := (List.getElem?_eq_some_iff.1 hu).1
          omega
        have := (gi j hj).trans hu
        rw [← this]
        congr 1
        simp only [Addr.add]
        split <;> split <;> simp_all <;> omega
    · intro z hz
      obtain ⟨i, hi⟩ := List.mem_ofFn.1 hz
      obtain ⟨_, _, _, hq⟩ := hF i.1 i.2
      rw [← hi]; exact hq
end
end Go.Proofs.YtalnnghnipoogaaDoor

/- Arguments that are slices, read as data. -/
namespace Go.Proofs.YtalnnghnipoogaaDoor
open Go.ChangeShapes Go.WideShapes Go.ChangeAt Go.RowKit Go.Deep

def enInt (n : Int) : List Value := [.int .i64 n]
def i64 (n : Int) : Prop := -9223372036854775808 ≤ n ∧ n ≤ 9223372036854775807
abbrev IntsAt (w : World) (v : Value) (xs : List Int) : Prop := SlAt 1 8 enInt w v xs

theorem weights_le {H : Type} {P : Program} {ts : List TypeId} {ds : List (DataW H)} (h : (DataW.weightsEach P ts ds).all (· ≤ reachBytes) = true) {j : Nat} {t : TypeId} {d : DataW H} (ht : ts[j]? = some t) (hd : ds[j]? = some d) :
    ∀ m ∈ d.weights P t, m ≤ reachBytes := by
  intro m hm
  have := List.all_eq_true.1 h m (DataW.weights_mem_each ht hd m hm)
  simpa using this

section
variable {H : Type} {enc : TypeId × Value → H} {w : World} {base : Nat} {sp : Nat → Bool} {held : Bool}

set_option maxRecDepth 100000 in
theorem slice_cell {r : Reach} {b0 : Nat} {t e : TypeId} {v v' : Value} (ht : Tryd.prog.underlying t = some (.slice e)) (hv : Value.okWide Tryd.prog w r b0 t v) (h : v.cells.toList = [v']) : v = v' := by
  obtain ⟨a, len, cap, rfl⟩ := okWide_slice ht hv
  simpa [Value.cells] using h
end
end Go.Proofs.YtalnnghnipoogaaDoor
