/- Texts of mine that come as one: LawNew Of. -/
import Derived.Test.YtggcinmjmkfboaaKnows
import Derived.Test.YtggcinmjmkfboaaPG
import Derived.Test.YtggcinmjmkfboaaPU
/- The walk of tree.New; the law TreeNew. -/
namespace Go.Proofs.Ytggcinmjmkfboaa
open Go.RowKit

def newT : Tr := ⟨[⟨true, [], [], [], []⟩], 0⟩
set_option maxRecDepth 100000 in
set_option maxHeartbeats 1000000 in
theorem treeNew_made (w : World) : Calls Try.prog 14 #[] w fun e w' => ∃ g, e = .returned (.agg #[.slice (some ⟨g, 0, none⟩) 1 1, .int .i64 0]) ∧ w.heap.size ≤ g ∧ g < w'.heap.size ∧ w'.heap[g]? = some (.cells #[.bool true, .slice none 0 0, .slice none 0 0, .slice none 0 0, .slice none 0 0] 59) ∧ Below w.heap.size w w' := by
  go_enter Try.func14, Try.ntmps14
  go_wp2
  exact bodyPost_ret (v := .agg #[.slice (some ⟨w.heap.size + 1, 0, none⟩) 1 1, .int .i64 0]) (by simp [results, Try.results14, go_sem]) rfl ⟨_, rfl, by omega, by simp, by first | (with_reducible exact heap_new _ _ (by simp)) | simp, (by repeat (first | with_reducible exact Below.refl _ _ | with_reducible assumption | with_reducible refine below_dn ?_ _ | with_reducible refine Below.drew ?_ | with_reducible refine Below.alloc ?_ (by first | omega | (simp; done) | (simp; omega) | (simp [drew_size]; done) | (simp [drew_size]; omega)) _ | with_reducible refine Below.setCell ?_ (by first | omega | (simp; done) | (simp; omega) | (simp [drew_size]; done) | (simp [drew_size]; omega)) _))⟩
theorem newNodes {w : World} {g : Nat} {T : TypeId} (h : w.heap[g]? = some (.cells #[.bool true, .slice none 0 0, .slice none 0 0, .slice none 0 0, .slice none 0 0] T)) : NodesAt w (.slice (some ⟨g, 0, none⟩) 1 1) newT.nodes := by
  refine ⟨[⟨true, .slice none 0 0, .slice none 0 0, .slice none 0 0, .slice none 0 0⟩], ⟨_, _, rfl, by decide, by decide, by decide, by simp, fun _ => ⟨g, 0, rfl, (Array.getElem?_eq_some_iff.1 h).1, fun i x hx j u hu => ?_⟩⟩, rfl, fun i r x hr hx => ?_⟩
  · match i, hx with
    | 0, hx =>
      simp only [List.getElem?_cons_zero, Option.some.injEq] at hx
      subst hx
      simp only [World.cell?, h]
      simpa [enRaw] using hu
  · match i, hr, hx with
    | 0, hr, hx =>
      simp only [newT, List.getElem?_cons_zero, Option.some.injEq] at hr hx
      subst hr hx
      exact ⟨rfl, SlAt.nil _ _ _ _, SlAt.nil _ _ _ _, SlAt.nil _ _ _ _, SlAt.nil _ _ _ _⟩

end Go.Proofs.Ytggcinmjmkfboaa

/- The walk of tree.Of. -/
namespace Go.Proofs.Ytggcinmjmkfboaa
open Go.RowKit

theorem Made.putE {l : List Ent} {t : Tr} {k : Nat} (h : Made (l.take k) t) (hk : k < l.length) (ho : ¬ ∃ p, lastK l k = some p ∧ l[k].key ≤ p) :
    putE t l[k].key l[k].is = if l[k].key < 0 ∨ 1099511627776 ≤ l[k].key ∨ l[k].is.c = 0 then 2 else if rollCheck l[k].is ≠ 0 then rollCheck l[k].is else 0 := by
  unfold Go.Proofs.Ytggcinmjmkfboaa.putE
  rw [if_neg (by simp [h.1])]
  by_cases h2 : l[k].key < 0 ∨ 1099511627776 ≤ l[k].key ∨ l[k].is.c = 0
  · rw [if_pos h2, if_pos h2]
  · rw [if_neg h2, if_neg h2]
    by_cases h3 : rollCheck l[k].is = 0
    · obtain ⟨hz, -⟩ := h.put hk ho h2 h3
      have := (good_check h3 (by omega)).2
      have hle : (Roll.zero : Roll).c + l[k].is.c ≤ 1073741824 := by show (0 : Int) + _ ≤ _; omega
      simp only [h3, hz, ne_eq, not_true_eq_false, if_false, if_pos hle]
    · rw [if_pos h3, if_pos h3]
structure OfAt (w : World) (tb : Nat) (l : List Ent) (k : Nat) (s : Option Addr) (n c : Nat) (t : Tr) (wr : World) : Prop where
  below : Below w.heap.size w wr
  size : w.heap.size < tb
  lt : tb < wr.heap.size
  z0 : wr.cell? ⟨w.heap.size, 0, none⟩ = some (.slice none 0 0)
  z1 : wr.cell? ⟨w.heap.size, 1, none⟩ = some (.int .i64 0)
  zf : ∀ o, wr.frozen? ⟨w.heap.size, o, none⟩ = false
  t0 : wr.cell? ⟨tb, 0, none⟩ = some (.slice s n c)
  t1 : wr.cell? ⟨tb, 1, none⟩ = some (.int .i64 t.root)
  tf : ∀ o, wr.frozen? ⟨tb, o, none⟩ = false
  tree : ∀ w'', wr.heap.size ≤ w''.heap.size → (∀ b, w.heap.size < b → b ≠ tb → b < wr.heap.size → w''.heap[b]? = wr.heap[b]?) → TreeAt w'' (.agg #[.slice s n c, .int .i64 t.root]) t
  made : Made (l.take k) t
  ents : entsE none l = entsE (lastK l k) (l.drop k)
theorem OfAt.later {w : World} {tb : Nat} {l : List Ent} {k : Nat} {s : Option Addr} {n c : Nat} {t : Tr} {wr w' : World} (h : OfAt w tb l k s n c t wr) (hb : Below wr.heap.size wr w') : OfAt w tb l k s n c t w' := by
  have h1 := h.size
  have h2 := h.lt
  have k0 := keep1 hb (B := w.heap.size) (by omega)
  have k1 := keep1 hb (B := tb) h2
  exact ⟨Below.trans' h.below hb h.below.size, h1, k1.1, (k0.2.1 _).trans h.z0, (k0.2.1 _).trans h.z1, fun o => (k0.2.2 o).trans (h.zf o), (k1.2.1 _).trans h.t0, (k1.2.1 _).trans h.t1, fun o => (k1.2.2 o).trans (h.tf o), fun w'' hs hk => h.tree w'' (Nat.le_trans hb.size hs) fun b b1 b2 b3 => (hk b b1 b2 (Nat.lt_of_lt_of_le b3 hb.size)).trans (hb.block b b3), h.made, h.ents⟩
end Go.Proofs.Ytggcinmjmkfboaa
