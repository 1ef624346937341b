/- The walk of tree.New; the law TreeNew. -/
import Derived.Test.YtmpknhefkhjfpaaKnows
namespace Go.Proofs.Ytmpknhefkhjfpaa
open Go.RowKit

def newT : Tr := ⟨[⟨true, [], [], [], []⟩], 0⟩
theorem newT_vis : vis newT 12 0 0 1099511627776 = some ([0], 1) := by
  have h : newT.at? 0 = some ⟨true, [], [], [], []⟩ := rfl
  unfold vis
  rw [h]
  simp only
  rw [if_neg (by decide), if_pos trivial, if_pos ⟨rfl, rfl, rfl, by decide, .inr rfl, entsOk_nil _ _⟩]
theorem newT_fault : treeFault newT = 0 := treeFault_of (by decide) ⟨[0], 1, newT_vis, by simp, rfl⟩
theorem newT_all (lo hi : Int) : allR newT lo hi = some [] := rfl
theorem newT_knows : knowsB newT [] = true := by simp [knowsB, newT_fault, newT_all]

set_option maxRecDepth 100000 in
set_option maxHeartbeats 1000000 in
theorem treeNew_made (w : World) : Calls Try.prog 12 #[] w fun e w' => ∃ g, e = .returned (.agg #[.slice (some ⟨g, 0, none⟩) 1 1, .int .i64 0]) ∧ w.heap.size ≤ g ∧ g < w'.heap.size ∧ w'.heap[g]? = some (.cells #[.bool true, .slice none 0 0, .slice none 0 0, .slice none 0 0, .slice none 0 0] 64) ∧ Below w.heap.size w w' := by
  go_enter Try.func12, Try.ntmps12
  go_wp2
  exact bodyPost_ret (v := .agg #[.slice (some ⟨w.heap.size + 1, 0, none⟩) 1 1, .int .i64 0]) (by simp [results, Try.results12, go_sem]) rfl ⟨_, rfl, by omega, by simp, by first | (with_reducible exact heap_new _ _ (by simp)) | simp, (by repeat (first | with_reducible exact Below.refl _ _ | with_reducible assumption | with_reducible refine below_dn ?_ _ | with_reducible refine Below.drew ?_ | with_reducible refine Below.alloc ?_ (by first | omega | (simp; done) | (simp; omega) | (simp [drew_size]; done) | (simp [drew_size]; omega)) _ | with_reducible refine Below.setCell ?_ (by first | omega | (simp; done) | (simp; omega) | (simp [drew_size]; done) | (simp [drew_size]; omega)) _))⟩
theorem newNodes {w : World} {g : Nat} {T : TypeId} (h : w.heap[g]? = some (.cells #[.bool true, .slice none 0 0, .slice none 0 0, .slice none 0 0, .slice none 0 0] T)) : NodesAt w (.slice (some ⟨g, 0, none⟩) 1 1) newT.nodes := by
  refine ⟨[⟨true, .slice none 0 0, .slice none 0 0, .slice none 0 0, .slice none 0 0⟩], ⟨_, _, rfl, by decide, by decide, by decide, by simp, fun _ => ⟨g, 0, rfl, (Array.getElem?_eq_some_iff.1 h).1, fun i x hx j u hu => ?_⟩⟩, rfl, fun i r x hr hx => ?_⟩
  · match i, hx with
    | 0, hx =>
      simp only [List.getElem?_cons_zero, Option.some.injEq] at hx
      subst hx
      simp only [World.cell?, h]
      simpa [enRaw] using hu
  · match i, hr, hx with
    | 0, hr, hx =>
      simp only [newT, List.getElem?_cons_zero, Option.some.injEq] at hr hx
      subst hr hx
      exact ⟨rfl, SlAt.nil _ _ _ _, SlAt.nil _ _ _ _, SlAt.nil _ _ _ _, SlAt.nil _ _ _ _⟩

set_option maxRecDepth 100000 in
set_option maxHeartbeats 1000000 in
theorem treeNew_any (n : Int) (w : World) : Calls Try.prog 3 #[.int .i64 n] w fun e w' => e = .returned (.bool true) ∧ Below w.heap.size w w' := by
  have HN := Lib.hid fun w' => treeNew_made w'
  go_enter Try.func3, Try.ntmps3
  go_wp2_with (first
    | (go_at_call 12; (with_reducible refine (HN.out _).mono ?_); rintro e w1 ⟨g, rfl, hg1, hg2, hg, hb1⟩; have HK := Lib.hid fun w2 (hb : Below w1.heap.size w1 w2) => knows_any (v := .agg #[.slice (some ⟨g, 0, none⟩) 1 1, .int .i64 0]) (t := newT) (xs := []) (w := w2) ⟨_, rfl, newNodes ((hb.block g hg2).trans hg)⟩ (SlAt.nil _ _ _ _))
    | (go_at_call 13; (with_reducible refine (HK.out _ ?_).mono ?_); (exact (by repeat (first | with_reducible exact Below.refl _ _ | with_reducible assumption | with_reducible refine below_dn ?_ _ | with_reducible refine Below.drew ?_ | with_reducible refine Below.alloc ?_ (by first | omega | (simp; done) | (simp; omega) | (simp [drew_size]; done) | (simp [drew_size]; omega)) _ | with_reducible refine Below.setCell ?_ (by first | omega | (simp; done) | (simp; omega) | (simp [drew_size]; done) | (simp [drew_size]; omega)) _))); rintro e w3 ⟨rfl, hb3⟩))
  rw [newT_knows]
  go_ret
  exact ⟨rfl, Below.trans' (Below.alloc hb1 hb1.size _) hb3 (by first | omega | (simp; done) | (simp; omega) | (simp [drew_size]; done) | (simp [drew_size]; omega))⟩
end Go.Proofs.Ytmpknhefkhjfpaa
