/- The law BaseChecks. -/
import Derived.Test.YtijcaejdgicbmaaDoorProCheck
namespace Go.Proofs.YtijcaejdgicbmaaDoor
open Go.RowKit

set_option maxRecDepth 100000 in
set_option maxHeartbeats 1000000 in
theorem baseChecks_any {v : Value} {b : Ba} {w : World} (h : BaseAt w v b) (hst : ∀ s ∈ b.names, s.size ≤ 140737488351232) (hsz : SizesAt w) :
    Calls Tryd.prog 3 #[v] w fun e w' => e = .returned (.bool true) ∧ Below w.heap.size w w' := by
  have HC := Lib.hid fun w' (hb : Below w.heap.size w w') => baseCheck_any (h.below hb) hst (hsz.below hb)
  have HM := Lib.hid fun w' (hb : Below w.heap.size w w') => baseMay_any (h.below hb) hst
  obtain ⟨sa, sc, g0, l0, p0, g1, l1, p1, g2, l2, p2, rfl, -⟩ := h.open
  obtain ⟨W0, hW0⟩ : ∃ W0, W0 = w.alloc (.cells (baCells sa b.names.length sc g0 l0 p0 g1 l1 p1 g2 l2 p2 b) 28) := ⟨_, rfl⟩
  have hb0 : Below w.heap.size w W0 := by rw [hW0]; exact (by repeat (first | with_reducible exact Below.refl _ _ | with_reducible assumption | with_reducible refine below_dn ?_ _ | with_reducible refine Below.drew ?_ | with_reducible refine Below.alloc ?_ (by first | omega | (simp; done) | (simp; omega) | (simp [drew_size]; done) | (simp [drew_size]; omega)) _ | with_reducible refine Below.setCell ?_ (by first | omega | (simp; done) | (simp; omega) | (simp [drew_size]; done) | (simp [drew_size]; omega)) _))
  have hz0 : W0.heap.size = w.heap.size + 1 := by rw [hW0]; simp
  have k0 : W0.heap[w.heap.size]? = some (.cells (baCells sa b.names.length sc g0 l0 p0 g1 l1 p1 g2 l2 p2 b) 28) := by rw [hW0]; exact heap_new _ _ rfl
  have HX := Lib.hid fun w' (hb : Below W0.heap.size W0 w') => (by
    have b0 : w'.heap[w.heap.size]? = _ := (hb.block _ (by omega)).trans k0
    simp [World.cell?, b0] :
    w'.cell? ⟨w.heap.size, 0, none⟩ = some (.slice sa b.names.length sc) ∧ w'.cell? ⟨w.heap.size, 1, none⟩ = some (.slice g0 l0 p0) ∧ w'.cell? ⟨w.heap.size, 2, none⟩ = some (.int .i64 b.t0.root) ∧ w'.cell? ⟨w.heap.size, 3, none⟩ = some (.slice g1 l1 p1) ∧ w'.cell? ⟨w.heap.size, 4, none⟩ = some (.int .i64 b.t1.root) ∧ w'.cell? ⟨w.heap.size, 5, none⟩ = some (.slice g2 l2 p2) ∧ w'.cell? ⟨w.heap.size, 6, none⟩ = some (.int .i64 b.t2.root) ∧ w'.cell? ⟨w.heap.size, 7, none⟩ = some (.int .i64 b.floor))
  have HB := Lib.hid fun w' (hb : Below W0.heap.size W0 w') => (Below.trans' hb0 hb hb0.size : Below w.heap.size w w')
  obtain ⟨x0, x1, x2, x3, x4, x5, x6, x7⟩ := HX.out W0 (Below.refl _ _)
  clear h hst hsz
  go_enter Tryd.func3, Tryd.ntmps3
  go_upto_region 1 with (fail)
  rw [← hW0]
  clear hW0 k0
  cases hm : baseMay b with
  | true =>
    have hc : checkE b = 0 := checkE_yes hm
    rw [hc] at HC
    rw [hm] at HM
    clear hm hc
    go_wp2_with (first
      | (go_at_call 9; (with_reducible refine (HC.out _ hb0).mono ?_); rintro e w1 ⟨rfl, hb1⟩; have hb1' := HB.out _ hb1; obtain ⟨x0, x1, x2, x3, x4, x5, x6, x7⟩ := HX.out _ hb1)
      | (go_at_call 10; (with_reducible refine (HM.out _ hb1').mono ?_); rintro e w2 ⟨rfl, hb2⟩))
    go_ret
    exact ⟨rfl, Below.trans' hb1' hb2 hb1'.size⟩
  | false =>
    have hc : checkE b = 7 := checkE_no hm
    rw [hc] at HC
    rw [hm] at HM
    clear hm hc
    go_wp2_with (first
      | (go_at_call 9; (with_reducible refine (HC.out _ hb0).mono ?_); rintro e w1 ⟨rfl, hb1⟩; have hb1' := HB.out _ hb1; obtain ⟨x0, x1, x2, x3, x4, x5, x6, x7⟩ := HX.out _ hb1)
      | (go_at_call 10; (with_reducible refine (HM.out _ hb1').mono ?_); rintro e w2 ⟨rfl, hb2⟩))
    go_ret
    exact ⟨rfl, Below.trans' hb1' hb2 hb1'.size⟩
end Go.Proofs.YtijcaejdgicbmaaDoor
