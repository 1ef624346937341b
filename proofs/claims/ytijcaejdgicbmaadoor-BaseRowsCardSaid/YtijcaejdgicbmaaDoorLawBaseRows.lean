/- The law BaseRows. -/
import Derived.Test.YtijcaejdgicbmaaDoorRefRows
namespace Go.Proofs.YtijcaejdgicbmaaDoor
open Go.RowKit

set_option maxRecDepth 100000 in
set_option maxHeartbeats 1000000 in
theorem baseRows_any {v : Value} {b : Ba} {s : ByteArray} {n a z : Int} {w : World} (h : BaseAt w v b) (hst : ∀ s ∈ b.names, s.size ≤ 140737488351232) (hsz : SizesAt w) :
    Calls Tryd.prog 4 #[v, .string s, .int .i64 n, .int .i64 a, .int .i64 z] w fun e w' => e = .returned (.bool true) ∧ Below w.heap.size w w' := by
  have HC := Lib.hid fun w' (hb : Below w.heap.size w w') => rows_any (s := s) (n := n) (a := a) (z := z) (h.below hb) hst (hsz.below hb)
  have HM := Lib.hid fun w' (hb : Below w.heap.size w w') => refRows_any (s := s) (n := n) (a := a) (z := z) (h.below hb) hst
  obtain ⟨sa, sc, g0, l0, p0, g1, l1, p1, g2, l2, p2, rfl, -⟩ := h.open
  obtain ⟨W0, hW0⟩ : ∃ W0, W0 = w.alloc (.cells (baCells sa b.names.length sc g0 l0 p0 g1 l1 p1 g2 l2 p2 b) 28) := ⟨_, rfl⟩
  have hb0 : Below w.heap.size w W0 := by rw [hW0]; exact (by repeat (first | with_reducible exact Below.refl _ _ | with_reducible assumption | with_reducible refine below_dn ?_ _ | with_reducible refine Below.drew ?_ | with_reducible refine Below.alloc ?_ (by first | omega | (simp; done) | (simp; omega) | (simp [drew_size]; done) | (simp [drew_size]; omega)) _ | with_reducible refine Below.setCell ?_ (by first | omega | (simp; done) | (simp; omega) | (simp [drew_size]; done) | (simp [drew_size]; omega)) _))
  have hz0 : W0.heap.size = w.heap.size + 1 := by rw [hW0]; simp
  have k0 : W0.heap[w.heap.size]? = some (.cells (baCells sa b.names.length sc g0 l0 p0 g1 l1 p1 g2 l2 p2 b) 28) := by rw [hW0]; exact heap_new _ _ rfl
  have HX := Lib.hid fun w' (hb : Below W0.heap.size W0 w') => (by
    have b0 : w'.heap[w.heap.size]? = _ := (hb.block _ (by omega)).trans k0
    simp [World.cell?, b0] :
    w'.cell? ⟨w.heap.size, 0, none⟩ = some (.slice sa b.names.length sc) ∧ w'.cell? ⟨w.heap.size, 1, none⟩ = some (.slice g0 l0 p0) ∧ w'.cell? ⟨w.heap.size, 2, none⟩ = some (.int .i64 b.t0.root) ∧ w'.cell? ⟨w.heap.size, 3, none⟩ = some (.slice g1 l1 p1) ∧ w'.cell? ⟨w.heap.size, 4, none⟩ = some (.int .i64 b.t1.root) ∧ w'.cell? ⟨w.heap.size, 5, none⟩ = some (.slice g2 l2 p2) ∧ w'.cell? ⟨w.heap.size, 6, none⟩ = some (.int .i64 b.t2.root) ∧ w'.cell? ⟨w.heap.size, 7, none⟩ = some (.int .i64 b.floor))
  have HB := Lib.hid fun w' (hb : Below W0.heap.size W0 w') => (Below.trans' hb0 hb hb0.size : Below w.heap.size w w')
  obtain ⟨x0, x1, x2, x3, x4, x5, x6, x7⟩ := HX.out W0 (Below.refl _ _)
  clear h hst hsz
  have hlen : (rowsR b s n a z).length ≤ 500 := by
    unfold rowsR
    split
    · rename_i h0
      unfold rowsE at h0
      split at h0
      · rename_i h1; exact absurd h0 h1
      · split at h0
        · cases h0
        · split at h0
          · cases h0
          · split at h0
            · cases h0
            · omega
    · simp
  obtain ⟨E, hE⟩ : ∃ E, rowsE b s n a z = E := ⟨_, rfl⟩
  obtain ⟨R, hR⟩ : ∃ R, rowsR b s n a z = R := ⟨_, rfl⟩
  rw [hE, hR] at HC HM
  rw [hR] at hlen
  clear hE hR
  have e1 : (E == E) = true := by simp
  have e2 : decide (R = R) = true := by simp
  go_enter Tryd.func4, Tryd.ntmps4
  go_upto_region 1 with (fail)
  rw [← hW0]
  clear hW0 k0
  go_wp2_with (first
    | (go_at_call 11; (with_reducible refine (HC.out _ hb0).mono ?_); rintro e w1 ⟨hb1, v1, rfl, ho1⟩; have hb1' := HB.out _ hb1; obtain ⟨x0, x1, x2, x3, x4, x5, x6, x7⟩ := HX.out _ hb1; obtain ⟨s1, c1, rfl⟩ := ho1.isSlice)
    | (go_at_call 12; (with_reducible refine (HM.out _ hb1').mono ?_); rintro e w2 ⟨hb2, v2, rfl, ho2⟩; have hb2' := Below.trans' hb1' hb2 hb1'.size; obtain ⟨s2, c2, rfl⟩ := ho2.isSlice; have HSR := Lib.hid (lawSameRows_any ((ho1.below hb2 (Nat.le_refl _)).at (by omega)) (ho2.at (by omega))))
    | (go_at_call 13; (with_reducible refine HSR.out.mono ?_); rintro e w3 ⟨rfl, hb3⟩))
  go_ret
  exact ⟨ret_bool (by simp), Below.trans' hb2' hb3 hb2'.size⟩
end Go.Proofs.YtijcaejdgicbmaaDoor
