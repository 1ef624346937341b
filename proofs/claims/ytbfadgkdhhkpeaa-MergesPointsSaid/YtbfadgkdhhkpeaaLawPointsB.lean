/- The law MergesPoints over whatever slice of ints. -/
import Derived.Test.YtbfadgkdhhkpeaaLawPoints
import Derived.Test.YtbfadgkdhhkpeaaOpenSl
namespace Go.Proofs.Ytbfadgkdhhkpeaa
open Go.RowKit
theorem mergesPoints_sl {v : Value} {xs : List Int} {w : World} (h : IntsAt w v xs) (hq : ∀ a ∈ xs, i64 a) :
    Calls Try.prog 12 #[v] w fun e w' => e = .returned (.bool true) ∧ Below w.heap.size w w' := by
  obtain ⟨ao, cap, rfl, h1, h2, h3, h4, h5⟩ := h
  refine mergesPoints_any ao xs.length cap (fun i => xs.getD i 0) w h1 h2 (fun i hi => ?_) (fun h0 => ?_)
  · have : xs.getD i 0 ∈ xs := by simp [List.getD, hi]
    exact hq _ this
  · obtain ⟨b, off, e, hb, hc⟩ := h5 h0
    refine ⟨b, off, e, hb, fun i hi => ?_⟩
    have := hc i (xs[i]) (by simp [hi]) 0 (.int .i64 xs[i]) rfl
    simpa [List.getD, hi] using this
end Go.Proofs.Ytbfadgkdhhkpeaa
