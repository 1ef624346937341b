/- The law TreeChecks over a tree in memory. -/
import Derived.Test.YtmpknhefkhjfpaaCheck
import Derived.Test.YtmpknhefkhjfpaaLawCopies
namespace Go.Proofs.Ytmpknhefkhjfpaa
open Go.RowKit

set_option maxRecDepth 100000 in
set_option maxHeartbeats 1000000 in
theorem treeChecks_any {v : Value} {t : Tr} {w : World} (h : TreeAt w v t) :
    Calls Try.prog 7 #[v] w fun e w' => e = .returned (.bool true) ∧ Below w.heap.size w w' := by
  obtain ⟨nv, rfl, hn⟩ := h
  obtain ⟨ao, n, cap, rfl⟩ := nodes_slice hn
  have HC := Lib.hid (fun w' (hb : Below w.heap.size w w') => treeCheck_any (t := t) (w := w') (v := .agg #[.slice ao n cap, .int .i64 t.root]) ⟨_, rfl, hn.below hb (Nat.le_refl _)⟩)
  have HF := Lib.hid (fun w' (hb : Below w.heap.size w w') => treeFault_any (t := t) (w := w') (v := .agg #[.slice ao n cap, .int .i64 t.root]) ⟨_, rfl, hn.below hb (Nat.le_refl _)⟩)
  go_enter Try.func7, Try.ntmps7
  go_wp2_with (first
    | (go_at_call 20; refine (HC.out _ (by repeat (first | exact Below.refl _ _ | assumption | refine below_dn ?_ _ | refine Below.drew ?_ | refine Below.alloc ?_ (by first | omega | (simp; done) | (simp; omega)) _ | refine Below.setCell ?_ (by first | omega | (simp; done) | (simp; omega)) _))).mono ?_; rintro e w1 ⟨rfl, hb⟩; obtain ⟨k1, k2, k3⟩ := keep1 hb (B := w.heap.size) (by simp); have hbw : Below w.heap.size w w1 := Below.trans' ((Below.refl _ w).alloc (Nat.le_refl _) _) hb (by simp))
    | (go_at_call 21; refine (HF.out _ (by repeat (first | exact Below.refl _ _ | assumption | refine below_dn ?_ _ | refine Below.drew ?_ | refine Below.alloc ?_ (by first | omega | (simp; done) | (simp; omega)) _ | refine Below.setCell ?_ (by first | omega | (simp; done) | (simp; omega)) _))).mono ?_; rintro e w2 ⟨rfl, hb2⟩))
  go_ret
  exact ⟨by first | rfl | simp, Below.trans' hbw hb2 hbw.size⟩
end Go.Proofs.Ytmpknhefkhjfpaa
