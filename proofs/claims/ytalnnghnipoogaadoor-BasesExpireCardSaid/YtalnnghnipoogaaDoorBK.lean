/- Texts of mine that come as one: Book BaseMay BaseIs. -/
import Derived.Test.YtalnnghnipoogaaDoorRolled
import Derived.Test.YtalnnghnipoogaaDoorAllOf
import Derived.Test.YtalnnghnipoogaaDoorCP
import Derived.BigQuiet
import Derived.Deep.QuietTactic
import Derived.Test.YtalnnghnipoogaaDoorNM
/- The walk of the document's Book: what is known of points. -/
namespace Go.Proofs.YtalnnghnipoogaaDoor
open Go.RowKit

theorem AllPost.allT {B : Nat} {w : World} {t : Tr} {e : Ending} {w' : World} (h : AllPost B w (treeFault t) (allR t 0 1099511627776) e w') :
    Below B w w' ∧ (match allT t with | none => ∃ E : Int, (E != 0) = true ∧ e = .returned (.tuple #[.slice none 0 0, .int .i64 E]) | some l => ∃ v, e = .returned (.tuple #[v, .int .i64 0]) ∧ OwnEnts B w' v l) := by
  obtain ⟨hb, h1, h2⟩ := h
  refine ⟨hb, ?_⟩
  unfold Go.Proofs.YtalnnghnipoogaaDoor.allT
  by_cases hf : treeFault t = 0
  · have h3 := h2 hf
    rw [if_pos hf]
    cases hr : allR t 0 1099511627776 with
    | none => rw [hr] at h3; exact ⟨1, rfl, h3⟩
    | some l => rw [hr] at h3; exact h3
  · rw [if_neg hf]; exact ⟨_, by simp [hf], h1 hf⟩
theorem book_ok {b : Ba} {l : List Ent} (h1 : allT b.t0 = some l) (h2 : l.all (bookOk b) = true) : bookR b = some l := by
  unfold bookR; rw [h1]; simp only; rw [if_pos h2]
theorem book_bad {b : Ba} {l : List Ent} {k : Nat} (h1 : allT b.t0 = some l) (hk : k < l.length) (h2 : bookOk b l[k] = false) : bookR b = none := by
  unfold bookR; rw [h1]; simp only; rw [if_neg]
  intro h; have := List.all_eq_true.1 h l[k] (List.getElem_mem hk); rw [h2] at this; cases this
theorem book_none {b : Ba} (h1 : allT b.t0 = none) : bookR b = none := by unfold bookR; rw [h1]
abbrev baCells (sa : Option Addr) (sn sc : Nat) (g0 : Option Addr) (l0 p0 : Nat) (g1 : Option Addr) (l1 p1 : Nat) (g2 : Option Addr) (l2 p2 : Nat) (b : Ba) : Array Value :=
  #[.slice sa sn sc, .slice g0 l0 p0, .int .i64 b.t0.root, .slice g1 l1 p1, .int .i64 b.t1.root, .slice g2 l2 p2, .int .i64 b.t2.root, .int .i64 b.floor]
theorem BaseAt.open {w : World} {v : Value} {b : Ba} (h : BaseAt w v b) : ∃ sa sc g0 l0 p0 g1 l1 p1 g2 l2 p2, v = .agg (baCells sa b.names.length sc g0 l0 p0 g1 l1 p1 g2 l2 p2 b) ∧ b.names.length ≤ 8796093022208 ∧ StrsAt w (.slice sa b.names.length sc) b.names ∧
    (∀ w', Below w.heap.size w w' → TreeAt w' (.agg #[.slice g0 l0 p0, .int .i64 b.t0.root]) b.t0) ∧ (∀ w', Below w.heap.size w w' → TreeAt w' (.agg #[.slice g1 l1 p1, .int .i64 b.t1.root]) b.t1) ∧ (∀ w', Below w.heap.size w w' → TreeAt w' (.agg #[.slice g2 l2 p2, .int .i64 b.t2.root]) b.t2) := by
  obtain ⟨nv, a0, a1, a2, rfl, s, n0, n1, n2⟩ := h
  obtain ⟨sa, sc, rfl⟩ := s.isSlice
  obtain ⟨g0, l0, p0, rfl⟩ := nodes_slice n0
  obtain ⟨g1, l1, p1, rfl⟩ := nodes_slice n1
  obtain ⟨g2, l2, p2, rfl⟩ := nodes_slice n2
  obtain ⟨_, _, _, _, _, h6, _⟩ := id s
  exact ⟨sa, sc, g0, l0, p0, g1, l1, p1, g2, l2, p2, rfl, by omega, s, fun w' hb => ⟨_, rfl, n0.below hb (Nat.le_refl _)⟩, fun w' hb => ⟨_, rfl, n1.below hb (Nat.le_refl _)⟩, fun w' hb => ⟨_, rfl, n2.below hb (Nat.le_refl _)⟩⟩

end Go.Proofs.YtalnnghnipoogaaDoor

/- The walk of the document's BaseMay: may a base be? -/
namespace Go.Proofs.YtalnnghnipoogaaDoor
open Go.RowKit

def NameAt (b : Ba) (i : Nat) : Prop := ∀ h : i < b.names.length, nameMay b.names[i] = true ∧ ∀ k (hk : k < i), b.names[k] ≠ b.names[i]
def NamesOk (b : Ba) : Prop := ∀ i, NameAt b i
structure BaseOk (b : Ba) : Prop where
  n16 : b.names.length ≤ 16
  fl0 : 0 ≤ b.floor
  fl1 : b.floor ≤ 1048575
  fl2 : b.floor % 3600 = 0
  names : NamesOk b
  trees : ∃ l, bookR b = some l ∧ ∀ k, k < 3 → treeOk l (b.tree k) (szOf k) = true
open Classical in
noncomputable def baseMay (b : Ba) : Bool := decide (BaseOk b)
theorem baseMay_no {b : Ba} (h : ¬ BaseOk b) : baseMay b = false := by simp [baseMay, h]
theorem baseMay_yes {b : Ba} (h : BaseOk b) : baseMay b = true := by simp [baseMay, h]
theorem baseMay_ok {b : Ba} (h : baseMay b = true) : BaseOk b := by simpa [baseMay] using h
theorem strs_cell {w wr : World} {b off k : Nat} {xs : List ByteArray} (hb : Below w.heap.size w wr) (hbb : b < w.heap.size)
    (hc : ∀ (i : Nat) x, xs[i]? = some x → ∀ j u, (enStr x)[j]? = some u → w.cell? ⟨b, off + i * 1 + j, none⟩ = some u) (hk : k < xs.length) : wr.cell? ⟨b, off + k, none⟩ = some (.string xs[k]) := by
  have := hc k xs[k] (by simp [hk]) 0 _ rfl
  rw [Nat.mul_one, Nat.add_zero] at this
  exact (hb.cell (p := ⟨b, off + k, none⟩) hbb).trans this
theorem idx_str {ab aoff n cap j : Nat} {i : Int} (h : i = j) (hj : j < n) (w : World) : (Instr.indexAt 22 (.slice (some ⟨ab, aoff, none⟩) n cap) (.int .i64 i)).run Tryd.prog w = .ok (.pointer (some ⟨ab, aoff + j, none⟩)) w := by
  subst h
  go_simp
theorem str_eq (s t : ByteArray) : (s.toList == t.toList) = decide (s = t) := by
  by_cases h : s = t
  · subst h; simp
  · have h2 : s.toList ≠ t.toList := fun e => h (by
      rw [ByteArray.toList_eq, ByteArray.toList_eq] at e
      cases s; cases t
      simp only [ByteArray.mk.injEq] at *
      exact Array.toList_inj.1 e)
    simp [h, h2]
theorem BaseAt.below {w w' : World} {v : Value} {b : Ba} (h : BaseAt w v b) (hb : Below w.heap.size w w') : BaseAt w' v b := by
  obtain ⟨nv, a0, a1, a2, rfl, s0, n0, n1, n2⟩ := h
  exact ⟨nv, a0, a1, a2, rfl, s0.below hb (Nat.le_refl _), n0.below hb (Nat.le_refl _), n1.below hb (Nat.le_refl _), n2.below hb (Nat.le_refl _)⟩
theorem treeOk_some {l a c : List Ent} {t : Tr} {z : Int} (h1 : rolledR l z = some a) (h2 : allT t = some c) : treeOk l t z = decide (a = c) := by unfold treeOk; rw [h1, h2]
theorem treeOk_no1 {l : List Ent} {t : Tr} {z : Int} (h1 : rolledR l z = none) : treeOk l t z = false := by unfold treeOk; rw [h1]
theorem treeOk_no2 {l : List Ent} {t : Tr} {z : Int} (h1 : allT t = none) : treeOk l t z = false := by unfold treeOk; rw [h1]; cases rolledR l z <;> rfl
def MayRel (b : Ba) (l : List Ent) (k : Nat) (B : Bool) : Prop := (B = true → ∀ j, j < k → treeOk l (b.tree j) (szOf j) = true) ∧ (B = false → baseMay b = false)
theorem MayRel.next {b : Ba} {l : List Ent} {k : Nat} (hl : bookR b = some l) (h : MayRel b l k true) (hk : k < 3) : MayRel b l (k + 1) (treeOk l (b.tree k) (szOf k)) := by
  refine ⟨fun hT j hj => ?_, fun hF => baseMay_no fun hB => ?_⟩
  · by_cases hjk : j = k
    · subst hjk; exact hT
    · exact h.1 rfl j (by omega)
  · obtain ⟨l', e, ht⟩ := hB.trees
    rw [hl] at e
    simp only [Option.some.injEq] at e
    subst e
    rw [ht k hk] at hF; cases hF
theorem MayRel.end {b : Ba} {l : List Ent} (hl : bookR b = some l) (h : MayRel b l 3 true) (h1 : b.names.length ≤ 16) (h2 : 0 ≤ b.floor ∧ b.floor ≤ 1048575) (h3 : b.floor % 3600 = 0) (h4 : NamesOk b) : baseMay b = true :=
  baseMay_yes ⟨h1, h2.1, h2.2, h3, h4, l, hl, fun k hk => h.1 rfl k hk⟩
theorem bookR_good {b : Ba} {l : List Ent} (h : bookR b = some l) : Rising l ∧ PGood l := allT_good (bookR_some h).1

end Go.Proofs.YtalnnghnipoogaaDoor

/- The walk of the document's BaseIs: is a base the one with these names, this floor, and these points known? -/
namespace Go.Proofs.YtalnnghnipoogaaDoor
open Go.RowKit

noncomputable def baseIs (b : Ba) (names : List ByteArray) (floor : Int) (l : List Ent) : Bool := baseMay b && decide (b.floor = floor) && decide (b.names = names) && decide (bookR b = some l)
theorem baseIs_eq {b : Ba} {ns : List ByteArray} {fl : Int} {l m : List Ent} (h1 : baseMay b = true) (h2 : b.floor = fl) (h3 : b.names = ns) (h4 : bookR b = some m) : baseIs b ns fl l = decide (m = l) := by simp [baseIs, h1, h2, h3, h4]

end Go.Proofs.YtalnnghnipoogaaDoor
