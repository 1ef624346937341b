/- The law BaseTotals. -/
import Derived.Test.YtijcaejdgicbmaaDoorTG
namespace Go.Proofs.YtijcaejdgicbmaaDoor
open Go.RowKit

set_option maxRecDepth 100000 in
set_option maxHeartbeats 1000000 in
theorem baseTotals_any {v : Value} {b : Ba} {s : ByteArray} {a z : Int} {w : World} (h : BaseAt w v b) (hst : ∀ s ∈ b.names, s.size ≤ 140737488351232) (hsz : SizesAt w) :
    Calls Tryd.prog 6 #[v, .string s, .int .i64 a, .int .i64 z] w fun e w' => e = .returned (.bool true) ∧ Below w.heap.size w w' := by
  have HC := Lib.hid fun w' (hb : Below w.heap.size w w') => total_any (s := s) (a := a) (z := z) (h.below hb) hst (hsz.below hb)
  have HM := Lib.hid fun w' (hb : Below w.heap.size w w') => refTotal_any (s := s) (a := a) (z := z) (h.below hb) hst
  obtain ⟨sa, sc, g0, l0, p0, g1, l1, p1, g2, l2, p2, rfl, -⟩ := h.open
  obtain ⟨W0, hW0⟩ : ∃ W0, W0 = w.alloc (.cells (baCells sa b.names.length sc g0 l0 p0 g1 l1 p1 g2 l2 p2 b) 28) := ⟨_, rfl⟩
  have hb0 : Below w.heap.size w W0 := by rw [hW0]; exact (by repeat (first | with_reducible exact Below.refl _ _ | with_reducible assumption | with_reducible refine below_dn ?_ _ | with_reducible refine Below.drew ?_ | with_reducible refine Below.alloc ?_ (by first | omega | (simp; done) | (simp; omega) | (simp [drew_size]; done) | (simp [drew_size]; omega)) _ | with_reducible refine Below.setCell ?_ (by first | omega | (simp; done) | (simp; omega) | (simp [drew_size]; done) | (simp [drew_size]; omega)) _))
  have hz0 : W0.heap.size = w.heap.size + 1 := by rw [hW0]; simp
  have k0 : W0.heap[w.heap.size]? = some (.cells (baCells sa b.names.length sc g0 l0 p0 g1 l1 p1 g2 l2 p2 b) 28) := by rw [hW0]; exact heap_new _ _ rfl
  have HX := Lib.hid fun w' (hb : Below W0.heap.size W0 w') => (by
    have b0 : w'.heap[w.heap.size]? = _ := (hb.block _ (by omega)).trans k0
    simp [World.cell?, b0] :
    w'.cell? ⟨w.heap.size, 0, none⟩ = some (.slice sa b.names.length sc) ∧ w'.cell? ⟨w.heap.size, 1, none⟩ = some (.slice g0 l0 p0) ∧ w'.cell? ⟨w.heap.size, 2, none⟩ = some (.int .i64 b.t0.root) ∧ w'.cell? ⟨w.heap.size, 3, none⟩ = some (.slice g1 l1 p1) ∧ w'.cell? ⟨w.heap.size, 4, none⟩ = some (.int .i64 b.t1.root) ∧ w'.cell? ⟨w.heap.size, 5, none⟩ = some (.slice g2 l2 p2) ∧ w'.cell? ⟨w.heap.size, 6, none⟩ = some (.int .i64 b.t2.root) ∧ w'.cell? ⟨w.heap.size, 7, none⟩ = some (.int .i64 b.floor))
  have HB := Lib.hid fun w' (hb : Below W0.heap.size W0 w') => (Below.trans' hb0 hb hb0.size : Below w.heap.size w w')
  obtain ⟨x0, x1, x2, x3, x4, x5, x6, x7⟩ := HX.out W0 (Below.refl _ _)
  clear h hst hsz
  obtain ⟨E, hE⟩ : ∃ E, totalE b s a z = E := ⟨_, rfl⟩
  obtain ⟨R, hR⟩ : ∃ R, totalR b s a z = R := ⟨_, rfl⟩
  rw [hE, hR] at HC HM
  clear hE hR
  have heq := run_eql_roll R R
  have e1 : (E == E) = true := by simp
  have e2 : decide (R = R) = true := by simp
  rw [e2] at heq
  go_enter Tryd.func6, Tryd.ntmps6
  go_upto_region 1 with (fail)
  rw [← hW0]
  clear hW0 k0
  go_upto_region 2 with ((go_at_call 16; (with_reducible refine (HC.out _ hb0).mono ?_); rintro e w1 ⟨hb1, rfl⟩))
  obtain ⟨W2, hW2⟩ : ∃ W2, W2 = w1.alloc (.cells #[.int .i64 R.c, .int .i64 R.s, .int .i64 R.mi, .int .i64 R.ma, .int .i64 R.t, .int .i64 R.l] 41) := ⟨_, rfl⟩
  have hb2 : Below w1.heap.size w1 W2 := by rw [hW2]; exact (by repeat (first | with_reducible exact Below.refl _ _ | with_reducible assumption | with_reducible refine below_dn ?_ _ | with_reducible refine Below.drew ?_ | with_reducible refine Below.alloc ?_ (by first | omega | (simp; done) | (simp; omega) | (simp [drew_size]; done) | (simp [drew_size]; omega)) _ | with_reducible refine Below.setCell ?_ (by first | omega | (simp; done) | (simp; omega) | (simp [drew_size]; done) | (simp [drew_size]; omega)) _))
  have hb02 : Below W0.heap.size W0 W2 := Below.trans' hb1 hb2 hb1.size
  have hbw2 := HB.out _ hb02
  have k2 : W2.heap[w1.heap.size]? = some (.cells #[.int .i64 R.c, .int .i64 R.s, .int .i64 R.mi, .int .i64 R.ma, .int .i64 R.t, .int .i64 R.l] 41) := by rw [hW2]; exact heap_new _ _ rfl
  have hz2 : w1.heap.size < W2.heap.size := by rw [hW2]; simp
  rw [← hW2]
  clear hW2 x0 x1 x2 x3 x4 x5 x6 x7
  obtain ⟨x0, x1, x2, x3, x4, x5, x6, x7⟩ := HX.out _ hb02
  go_upto_region 3 with ((go_at_call 17; (with_reducible refine (HM.out _ hbw2).mono ?_); rintro e w3 ⟨hb3, rfl⟩))
  obtain ⟨W4, hW4⟩ : ∃ W4, W4 = w3.alloc (.cells #[.int .i64 R.c, .int .i64 R.s, .int .i64 R.mi, .int .i64 R.ma, .int .i64 R.t, .int .i64 R.l] 41) := ⟨_, rfl⟩
  have hb4 : Below w3.heap.size w3 W4 := by rw [hW4]; exact (by repeat (first | with_reducible exact Below.refl _ _ | with_reducible assumption | with_reducible refine below_dn ?_ _ | with_reducible refine Below.drew ?_ | with_reducible refine Below.alloc ?_ (by first | omega | (simp; done) | (simp; omega) | (simp [drew_size]; done) | (simp [drew_size]; omega)) _ | with_reducible refine Below.setCell ?_ (by first | omega | (simp; done) | (simp; omega) | (simp [drew_size]; done) | (simp [drew_size]; omega)) _))
  have hb24 : Below W2.heap.size W2 W4 := Below.trans' hb3 hb4 hb3.size
  have k4 : W4.heap[w3.heap.size]? = some (.cells #[.int .i64 R.c, .int .i64 R.s, .int .i64 R.mi, .int .i64 R.ma, .int .i64 R.t, .int .i64 R.l] 41) := by rw [hW4]; exact heap_new _ _ rfl
  obtain ⟨o0, o1, o2, o3, o4, o5, -⟩ := zero_cells ((hb24.block _ hz2).trans k2)
  obtain ⟨u0, u1, u2, u3, u4, u5, -⟩ := zero_cells k4
  have hbw4 := Below.trans' hbw2 hb24 hbw2.size
  rw [← hW4]
  clear hW4 k2 k4 x0 x1 x2 x3 x4 x5 x6 x7
  go_wp2
  go_ret
  exact ⟨ret_bool (by simp), hbw4⟩
end Go.Proofs.YtijcaejdgicbmaaDoor
