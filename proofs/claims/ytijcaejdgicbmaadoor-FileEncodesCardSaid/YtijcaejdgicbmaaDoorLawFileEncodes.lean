/- The law FileEncodes. -/
import Derived.Test.YtijcaejdgicbmaaDoorBaseBytes
namespace Go.Proofs.YtijcaejdgicbmaaDoor
open Go.RowKit

theorem OwnBytes.str {B : Nat} {w : World} {v : Value} {xs : List Int} (h : OwnBytes B w v xs) : (convert 37 9 v).run Tryd.prog w = .ok (.string (strOfNums xs)) w := by
  obtain ⟨hl, ⟨rfl, h0⟩ | ⟨g, cap, cur, rfl, _, hg, _, _, _, h4⟩⟩ := h.row
  · obtain rfl := List.eq_nil_of_length_eq_zero h0
    exact run_convert_bytes_nil w 37 5 Tryd.underlying37 Tryd.underlying5 0 0 9 Tryd.underlying9
  · refine run_convert_bytes_arg w 37 5 Tryd.underlying37 Tryd.underlying5 g 0 xs.length cap xs rfl (fun i hi => ?_) 9 Tryd.underlying9
    have h5 : (xs.flatMap enB)[i]? = some (.int .u8 (xs.getD i 0)) := by
      rw [enB_flat]
      simp [List.getElem?_map, hi]
    rw [← h4, List.getElem?_take] at h5
    split at h5
    · simp only [Nat.zero_add, World.cell?, hg]; simpa using h5
    · cases h5

set_option maxRecDepth 100000 in
set_option maxHeartbeats 1000000 in
theorem fileEncodes_any {v : Value} {b : Ba} {w : World} (h : BaseAt w v b) (hst : ∀ s ∈ b.names, s.size ≤ 140737488351232) (hsz : SizesAt w) :
    Calls Tryd.prog 5 #[v] w fun e w' => e = .returned (.bool true) ∧ Below w.heap.size w w' := by
  have HC := Lib.hid fun w' (hb : Below w.heap.size w w') => encode_any (h.below hb) hst (hsz.below hb)
  have HM := Lib.hid fun w' (hb : Below w.heap.size w w') => baseBytes_any (h.below hb) hst
  obtain ⟨sa, sc, g0, l0, p0, g1, l1, p1, g2, l2, p2, rfl, -⟩ := h.open
  obtain ⟨W0, hW0⟩ : ∃ W0, W0 = w.alloc (.cells (baCells sa b.names.length sc g0 l0 p0 g1 l1 p1 g2 l2 p2 b) 28) := ⟨_, rfl⟩
  have hb0 : Below w.heap.size w W0 := by rw [hW0]; exact (by repeat (first | with_reducible exact Below.refl _ _ | with_reducible assumption | with_reducible refine below_dn ?_ _ | with_reducible refine Below.drew ?_ | with_reducible refine Below.alloc ?_ (by first | omega | (simp; done) | (simp; omega) | (simp [drew_size]; done) | (simp [drew_size]; omega)) _ | with_reducible refine Below.setCell ?_ (by first | omega | (simp; done) | (simp; omega) | (simp [drew_size]; done) | (simp [drew_size]; omega)) _))
  have hz0 : W0.heap.size = w.heap.size + 1 := by rw [hW0]; simp
  have k0 : W0.heap[w.heap.size]? = some (.cells (baCells sa b.names.length sc g0 l0 p0 g1 l1 p1 g2 l2 p2 b) 28) := by rw [hW0]; exact heap_new _ _ rfl
  have HX := Lib.hid fun w' (hb : Below W0.heap.size W0 w') => (by
    have b0 : w'.heap[w.heap.size]? = _ := (hb.block _ (by omega)).trans k0
    simp [World.cell?, b0] :
    w'.cell? ⟨w.heap.size, 0, none⟩ = some (.slice sa b.names.length sc) ∧ w'.cell? ⟨w.heap.size, 1, none⟩ = some (.slice g0 l0 p0) ∧ w'.cell? ⟨w.heap.size, 2, none⟩ = some (.int .i64 b.t0.root) ∧ w'.cell? ⟨w.heap.size, 3, none⟩ = some (.slice g1 l1 p1) ∧ w'.cell? ⟨w.heap.size, 4, none⟩ = some (.int .i64 b.t1.root) ∧ w'.cell? ⟨w.heap.size, 5, none⟩ = some (.slice g2 l2 p2) ∧ w'.cell? ⟨w.heap.size, 6, none⟩ = some (.int .i64 b.t2.root) ∧ w'.cell? ⟨w.heap.size, 7, none⟩ = some (.int .i64 b.floor))
  have HB := Lib.hid fun w' (hb : Below W0.heap.size W0 w') => (Below.trans' hb0 hb hb0.size : Below w.heap.size w w')
  obtain ⟨x0, x1, x2, x3, x4, x5, x6, x7⟩ := HX.out W0 (Below.refl _ _)
  clear h hst hsz
  obtain ⟨E, hE⟩ : ∃ E, encE b = E := ⟨_, rfl⟩
  obtain ⟨R, hR⟩ : ∃ R, encL b = R := ⟨_, rfl⟩
  rw [hE, hR] at HC HM
  clear hE hR
  obtain ⟨S, hS⟩ : ∃ S, strOfNums R = S := ⟨_, rfl⟩
  have HS := Lib.hid hS
  have hse := str_eq S S
  have hsd : decide (S = S) = true := by simp
  rw [hsd] at hse
  clear hS hsd
  have e1 : (E == E) = true := by simp
  go_enter Tryd.func5, Tryd.ntmps5
  go_upto_region 1 with (fail)
  rw [← hW0]
  clear hW0 k0
  go_upto_region 3 with (first
    | (go_at_call 14; (with_reducible refine (HC.out _ hb0).mono ?_); rintro e w1 ⟨hb1, v1, rfl, ho1⟩; have hb1' := HB.out _ hb1; obtain ⟨x0, x1, x2, x3, x4, x5, x6, x7⟩ := HX.out _ hb1; obtain ⟨s1, c1, rfl⟩ := ho1.isSlice)
    | (go_at_call 15; (with_reducible refine (HM.out _ hb1').mono ?_); rintro e w2 ⟨hb2, v2, rfl, ho2⟩; have hb2' := Below.trans' hb1' hb2 hb1'.size; obtain ⟨s2, c2, rfl⟩ := ho2.isSlice; have hv1 := (ho1.below hb2 (Nat.le_refl _)).str; have hv2 := ho2.str; rw [HS.out] at hv1 hv2))
  go_wp2
  go_ret
  exact ⟨ret_bool (by simp), hb2'⟩
end Go.Proofs.YtijcaejdgicbmaaDoor
