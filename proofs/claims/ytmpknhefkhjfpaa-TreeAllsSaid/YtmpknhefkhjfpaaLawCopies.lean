/- The law TreeCopies over a tree in memory. -/
import Derived.Test.YtmpknhefkhjfpaaCopy
import Derived.Test.YtmpknhefkhjfpaaSN
namespace Go.Proofs.Ytmpknhefkhjfpaa
open Go.RowKit
theorem nodes_slice {w : World} {v : Value} {xs : List Nd} (h : NodesAt w v xs) : ∃ ao n cap, v = .slice ao n cap := by
  obtain ⟨rs, hs, _⟩ := h; obtain ⟨a, c, h⟩ := hs.isSlice; exact ⟨a, _, c, h⟩

set_option maxRecDepth 100000 in
set_option maxHeartbeats 1000000 in
theorem treeCopies_any {v : Value} {t : Tr} {w : World} (h : TreeAt w v t) :
    Calls Try.prog 5 #[v] w fun e w' => e = .returned (.bool true) ∧ Below w.heap.size w w' := by
  obtain ⟨nv, rfl, hn⟩ := h
  obtain ⟨ao, n, cap, rfl⟩ := nodes_slice hn
  have HC := Lib.hid (fun w' (hb : Below w.heap.size w w') => treeCopy_any (hn.below hb (Nat.le_refl _)) ⟨t.root, rfl⟩)
  go_enter Try.func5, Try.ntmps5
  go_wp2_with (first
    | (go_at_call 16; refine (HC.out _ (by repeat (first | exact Below.refl _ _ | assumption | refine below_dn ?_ _ | refine Below.drew ?_ | refine Below.alloc ?_ (by first | omega | (simp; done) | (simp; omega)) _ | refine Below.setCell ?_ (by first | omega | (simp; done) | (simp; omega)) _))).mono ?_; rintro e w1 ⟨nv', rfl, hn', hb⟩; obtain ⟨ao', n', cap', rfl⟩ := nodes_slice hn'; obtain ⟨k1, k2, k3⟩ := keep1 hb (B := w.heap.size) (by simp); have hbw : Below w.heap.size w w1 := Below.trans' ((Below.refl _ w).alloc (Nat.le_refl _) _) hb (by simp); have HS := Lib.hid (fun w' (hb' : Below w1.heap.size w1 w') => sameTree_refl (r0 := t.root) (hn'.below hb' (Nat.le_refl _)) ((hn.below hbw (Nat.le_refl _)).below hb' (Nat.le_refl _))))
    | (go_at_call 17; refine (HS.out _ ?_).mono ?_; (exact (by repeat (first | exact Below.refl _ _ | assumption | refine below_dn ?_ _ | refine Below.drew ?_ | refine Below.alloc ?_ (by first | omega | (simp; done) | (simp; omega)) _ | refine Below.setCell ?_ (by first | omega | (simp; done) | (simp; omega)) _))); rintro e w2 ⟨rfl, hb2⟩))
  go_ret
  exact ⟨rfl, Below.trans' (Below.alloc hbw (by first | omega | (simp; omega)) _) hb2 (by first | omega | (simp; omega))⟩
end Go.Proofs.Ytmpknhefkhjfpaa
