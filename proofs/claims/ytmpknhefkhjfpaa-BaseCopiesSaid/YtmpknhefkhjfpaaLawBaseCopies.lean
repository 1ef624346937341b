/- The walk of sameBase, of two that are the same; the law BaseCopies. -/
import Derived.Test.YtmpknhefkhjfpaaBaseCopy
import Derived.BigQuiet
import Derived.Deep.QuietTactic
namespace Go.Proofs.Ytmpknhefkhjfpaa
open Go.RowKit

theorem str_cell {w wr : World} {b off k : Nat} {xs : List ByteArray} (hb : Below w.heap.size w wr) (hbb : b < w.heap.size)
    (hc : ∀ (i : Nat) x, xs[i]? = some x → ∀ j u, (enStr x)[j]? = some u → w.cell? ⟨b, off + i * 1 + j, none⟩ = some u) (hk : k < xs.length) : wr.cell? ⟨b, off + k, none⟩ = some (.string xs[k]) := by
  have := hc k xs[k] (by simp [hk]) 0 _ rfl
  rw [Nat.mul_one, Nat.add_zero] at this
  exact (hb.cell (p := ⟨b, off + k, none⟩) hbb).trans this

set_option maxRecDepth 100000 in
set_option maxHeartbeats 1000000 in
theorem sameBase_refl {va vb : Value} {b : Ba} {w : World} (ha : BaseAt w va b) (hb : BaseAt w vb b) :
    Calls Try.prog 19 #[va, vb] w fun e w' => e = .returned (.bool true) ∧ Below w.heap.size w w' := by
  obtain ⟨nv, a0, a1, a2, rfl, sna, an0, an1, an2⟩ := ha
  obtain ⟨nw, b0, b1, b2, rfl, snb, bn0, bn1, bn2⟩ := hb
  obtain ⟨sa, sc, rfl⟩ := sna.isSlice
  obtain ⟨sb, sd, rfl⟩ := snb.isSlice
  obtain ⟨g0, l0, p0, rfl⟩ := nodes_slice an0
  obtain ⟨g1, l1, p1, rfl⟩ := nodes_slice an1
  obtain ⟨g2, l2, p2, rfl⟩ := nodes_slice an2
  obtain ⟨h0, m0, q0, rfl⟩ := nodes_slice bn0
  obtain ⟨h1, m1, q1, rfl⟩ := nodes_slice bn1
  obtain ⟨h2, m2, q2, rfl⟩ := nodes_slice bn2
  obtain ⟨W0, hW0⟩ : ∃ W0, W0 = (w.alloc (.cells #[.slice sa b.names.length sc, .slice g0 l0 p0, .int .i64 b.t0.root, .slice g1 l1 p1, .int .i64 b.t1.root, .slice g2 l2 p2, .int .i64 b.t2.root, .int .i64 b.floor] 31)).alloc (.cells #[.slice sb b.names.length sd, .slice h0 m0 q0, .int .i64 b.t0.root, .slice h1 m1 q1, .int .i64 b.t1.root, .slice h2 m2 q2, .int .i64 b.t2.root, .int .i64 b.floor] 31) := ⟨_, rfl⟩
  have hb0 : Below w.heap.size w W0 := by rw [hW0]; exact (by repeat (first | with_reducible exact Below.refl _ _ | with_reducible assumption | with_reducible refine below_dn ?_ _ | with_reducible refine Below.drew ?_ | with_reducible refine Below.alloc ?_ (by first | omega | (simp; done) | (simp; omega)) _ | with_reducible refine Below.setCell ?_ (by first | omega | (simp; done) | (simp; omega)) _))
  have hz0 : W0.heap.size = w.heap.size + 2 := by rw [hW0]; simp
  have k0 : W0.heap[w.heap.size]? = some (.cells #[.slice sa b.names.length sc, .slice g0 l0 p0, .int .i64 b.t0.root, .slice g1 l1 p1, .int .i64 b.t1.root, .slice g2 l2 p2, .int .i64 b.t2.root, .int .i64 b.floor] 31) := by
    rw [hW0, Below.heap_alloc _ _ _ (by simp)]; exact heap_new _ _ rfl
  have k1 : W0.heap[w.heap.size + 1]? = some (.cells #[.slice sb b.names.length sd, .slice h0 m0 q0, .int .i64 b.t0.root, .slice h1 m1 q1, .int .i64 b.t1.root, .slice h2 m2 q2, .int .i64 b.t2.root, .int .i64 b.floor] 31) := by
    rw [hW0]; exact heap_new _ _ (by simp)
  have HA := Lib.hid fun w' (h : Below W0.heap.size W0 w') => (by
    have b0 : w'.heap[w.heap.size]? = _ := (h.block _ (by omega)).trans k0
    simp [World.cell?, b0] : w'.cell? ⟨w.heap.size, 0, none⟩ = some (.slice sa b.names.length sc) ∧ w'.cell? ⟨w.heap.size, 1, none⟩ = some (.slice g0 l0 p0) ∧ w'.cell? ⟨w.heap.size, 2, none⟩ = some (.int .i64 b.t0.root) ∧ w'.cell? ⟨w.heap.size, 3, none⟩ = some (.slice g1 l1 p1) ∧ w'.cell? ⟨w.heap.size, 4, none⟩ = some (.int .i64 b.t1.root) ∧ w'.cell? ⟨w.heap.size, 5, none⟩ = some (.slice g2 l2 p2) ∧ w'.cell? ⟨w.heap.size, 6, none⟩ = some (.int .i64 b.t2.root) ∧ w'.cell? ⟨w.heap.size, 7, none⟩ = some (.int .i64 b.floor))
  have HB := Lib.hid fun w' (h : Below W0.heap.size W0 w') => (by
    have b0 : w'.heap[w.heap.size + 1]? = _ := (h.block _ (by omega)).trans k1
    simp [World.cell?, b0] : w'.cell? ⟨w.heap.size + 1, 0, none⟩ = some (.slice sb b.names.length sd) ∧ w'.cell? ⟨w.heap.size + 1, 1, none⟩ = some (.slice h0 m0 q0) ∧ w'.cell? ⟨w.heap.size + 1, 2, none⟩ = some (.int .i64 b.t0.root) ∧ w'.cell? ⟨w.heap.size + 1, 3, none⟩ = some (.slice h1 m1 q1) ∧ w'.cell? ⟨w.heap.size + 1, 4, none⟩ = some (.int .i64 b.t1.root) ∧ w'.cell? ⟨w.heap.size + 1, 5, none⟩ = some (.slice h2 m2 q2) ∧ w'.cell? ⟨w.heap.size + 1, 6, none⟩ = some (.int .i64 b.t2.root) ∧ w'.cell? ⟨w.heap.size + 1, 7, none⟩ = some (.int .i64 b.floor))
  have HW := Lib.hid fun w' (h : Below W0.heap.size W0 w') => (Below.trans' hb0 h hb0.size : Below w.heap.size w w')
  have HS := Lib.hid fun w' (h : Below W0.heap.size W0 w') (x y : Value) (hxy : (x = .agg #[.slice g0 l0 p0, .int .i64 b.t0.root] ∧ y = .agg #[.slice h0 m0 q0, .int .i64 b.t0.root]) ∨ (x = .agg #[.slice g1 l1 p1, .int .i64 b.t1.root] ∧ y = .agg #[.slice h1 m1 q1, .int .i64 b.t1.root]) ∨ (x = .agg #[.slice g2 l2 p2, .int .i64 b.t2.root] ∧ y = .agg #[.slice h2 m2 q2, .int .i64 b.t2.root])) => (by
    have hb' := HW.out w' h
    rcases hxy with ⟨rfl, rfl⟩ | ⟨rfl, rfl⟩ | ⟨rfl, rfl⟩
    · exact sameTree_refl (an0.below hb' (Nat.le_refl _)) (bn0.below hb' (Nat.le_refl _))
    · exact sameTree_refl (an1.below hb' (Nat.le_refl _)) (bn1.below hb' (Nat.le_refl _))
    · exact sameTree_refl (an2.below hb' (Nat.le_refl _)) (bn2.below hb' (Nat.le_refl _)) :
    Calls Try.prog 17 #[x, y] w' fun e w'' => e = .returned (.bool true) ∧ Below w'.heap.size w' w'')
  have HAS := Lib.hid sna
  have HBS := Lib.hid snb
  have b00 := Below.refl W0.heap.size W0
  obtain ⟨_, _, _, _, _, hl16, _⟩ := id sna
  clear sna snb an0 an1 an2 bn0 bn1 bn2
  obtain ⟨c0, c1, c2, c3, c4, c5, c6, c7⟩ := HA.out _ b00
  obtain ⟨d0, d1, d2, d3, d4, d5, d6, d7⟩ := HB.out _ b00
  go_enter Try.func19, Try.ntmps19
  go_upto_region 1 with (fail)
  rw [← hW0]
  clear hW0 k0 k1
  go_wp2_with fail
  clear c0 c1 c2 c3 c4 c5 c6 c7 d0 d1 d2 d3 d4 d5 d6 d7
  go_loopg [5] b.names.length (fun g i wr => ∃ k : Nat, k ≤ b.names.length ∧ g = b.names.length - k ∧ i = .int .i64 k ∧ Hid (Below W0.heap.size W0 wr))
  case atStart => exact ⟨0, Nat.zero_le _, rfl, rfl, Lib.hid b00⟩
  case round =>
    obtain ⟨k, hk, rfl, rfl, HBW⟩ := hrel
    obtain ⟨c0, c1, c2, c3, c4, c5, c6, c7⟩ := HA.out _ HBW.out
    obtain ⟨d0, d1, d2, d3, d4, d5, d6, d7⟩ := HB.out _ HBW.out
    by_cases hlt : k < b.names.length
    · obtain ⟨_, _, va, -, -, -, -, a5⟩ := HAS.out
      obtain ⟨_, _, vb, -, -, -, -, b5⟩ := HBS.out
      obtain ⟨ab, aoff, ha, abb, ac⟩ := a5 (by omega)
      obtain ⟨bb, boff, hb', bbb, bc⟩ := b5 (by omega)
      injection va with va1 _ va3
      injection vb with vb1 _ vb3
      subst va1 va3 vb1 vb3 ha hb'
      have e0 := str_cell (HW.out _ HBW.out) abb ac hlt
      have e1 := str_cell (HW.out _ HBW.out) bbb bc hlt
      obtain ⟨s, hs⟩ : ∃ s, b.names[k] = s := ⟨_, rfl⟩
      rw [hs] at e0 e1
      clear hs a5 b5 ac bc
      have hss : ∀ w', (binOp .neq 9 (.string s) (.string s)).run Try.prog w' = .ok (.bool false) w' := fun w' => by go_simp
      go_wp2_with fail
      go_quiet (fail)
      go_wp2
      go_roundg (b.names.length - (k + 1))
      case measure => omega
      case rel => exact ⟨k + 1, by omega, rfl, by go_num, Lib.hid (by have := HBW.out; exact (by repeat (first | with_reducible exact Below.refl _ _ | with_reducible assumption | with_reducible refine below_dn ?_ _ | with_reducible refine Below.drew ?_ | with_reducible refine Below.alloc ?_ (by first | omega | (simp; done) | (simp; omega)) _ | with_reducible refine Below.setCell ?_ (by first | omega | (simp; done) | (simp; omega)) _)))⟩
    · go_wp2_with (first
        | (go_at_call 17; (with_reducible refine (HS.out wr HBW.out _ _ (.inl ⟨rfl, rfl⟩)).mono ?_); rintro e w1 ⟨rfl, hb1⟩; have bw1 := Below.trans' HBW.out hb1 HBW.out.size; have hz1 := hb1.size; obtain ⟨c0', c1', c2', c3', c4', c5', c6', c7'⟩ := HA.out _ bw1; obtain ⟨d0', d1', d2', d3', d4', d5', d6', d7'⟩ := HB.out _ bw1)
        | (go_at_call 17; (with_reducible refine (HS.out w1 bw1 _ _ (.inr (.inl ⟨rfl, rfl⟩))).mono ?_); rintro e w2 ⟨rfl, hb2⟩; have bw2 := Below.trans' bw1 hb2 bw1.size; obtain ⟨c0'', c1'', c2'', c3'', c4'', c5'', c6'', c7''⟩ := HA.out _ bw2; obtain ⟨d0'', d1'', d2'', d3'', d4'', d5'', d6'', d7''⟩ := HB.out _ bw2)
        | (go_at_call 17; (with_reducible refine (HS.out w2 bw2 _ _ (.inr (.inr ⟨rfl, rfl⟩))).mono ?_); rintro e w3 ⟨rfl, hb3⟩; have bw3 := Below.trans' bw2 hb3 bw2.size))
      go_ret
      exact ⟨rfl, HW.out _ bw3⟩

set_option maxRecDepth 100000 in
set_option maxHeartbeats 1000000 in
theorem baseCopies_any {v : Value} {b : Ba} {w : World} (h : BaseAt w v b) :
    Calls Try.prog 6 #[v] w fun e w' => e = .returned (.bool true) ∧ Below w.heap.size w w' := by
  have HN := Lib.hid h
  have HC := Lib.hid fun w' (hb : Below w.heap.size w w') => (by
    obtain ⟨nv, a0, a1, a2, rfl, s0, n0, n1, n2⟩ := h
    exact baseCopy_any ⟨nv, a0, a1, a2, rfl, s0.below hb (Nat.le_refl _), n0.below hb (Nat.le_refl _), n1.below hb (Nat.le_refl _), n2.below hb (Nat.le_refl _)⟩ :
    Calls Try.prog 18 #[v] w' fun e w'' => (∃ v', e = .returned v' ∧ BaseAt w'' v' b) ∧ Below w'.heap.size w' w'')
  have HLATE := Lib.hid fun w' (hb : Below w.heap.size w w') => (by
    obtain ⟨nv, a0, a1, a2, rfl, s0, n0, n1, n2⟩ := h
    exact ⟨nv, a0, a1, a2, rfl, s0.below hb (Nat.le_refl _), n0.below hb (Nat.le_refl _), n1.below hb (Nat.le_refl _), n2.below hb (Nat.le_refl _)⟩ : BaseAt w' v b)
  obtain ⟨nv, a0, a1, a2, rfl, s0, n0, n1, n2⟩ := h
  obtain ⟨sa, sc, rfl⟩ := s0.isSlice
  obtain ⟨g0, l0, p0, rfl⟩ := nodes_slice n0
  obtain ⟨g1, l1, p1, rfl⟩ := nodes_slice n1
  obtain ⟨g2, l2, p2, rfl⟩ := nodes_slice n2
  clear s0 n0 n1 n2
  go_enter Try.func6, Try.ntmps6
  go_wp2_with (first
    | (go_at_call 18; (with_reducible refine (HC.out _ ?_).mono ?_); (exact (by repeat (first | with_reducible exact Below.refl _ _ | with_reducible assumption | with_reducible refine below_dn ?_ _ | with_reducible refine Below.drew ?_ | with_reducible refine Below.alloc ?_ (by first | omega | (simp; done) | (simp; omega)) _ | with_reducible refine Below.setCell ?_ (by first | omega | (simp; done) | (simp; omega)) _))); rintro e w1 ⟨⟨v1, rfl, nv1, a01, a11, a21, rfl, s01, n01, n11, n21⟩, hb1⟩; obtain ⟨sa1, sc1, rfl⟩ := s01.isSlice; obtain ⟨g01, l01, p01, rfl⟩ := nodes_slice n01; obtain ⟨g11, l11, p11, rfl⟩ := nodes_slice n11; obtain ⟨g21, l21, p21, rfl⟩ := nodes_slice n21; obtain ⟨k1, k2, k3⟩ := keep1 hb1 (B := w.heap.size) (by simp); have hbw1 : Below w.heap.size w w1 := Below.trans' (by repeat (first | with_reducible exact Below.refl _ _ | with_reducible assumption | with_reducible refine below_dn ?_ _ | with_reducible refine Below.drew ?_ | with_reducible refine Below.alloc ?_ (by first | omega | (simp; done) | (simp; omega)) _ | with_reducible refine Below.setCell ?_ (by first | omega | (simp; done) | (simp; omega)) _)) hb1 (by first | omega | (simp; done) | (simp; omega)); have HSB := Lib.hid fun w2 (hb : Below w1.heap.size w1 w2) => sameBase_refl (⟨_, _, _, _, rfl, s01.below hb (Nat.le_refl _), n01.below hb (Nat.le_refl _), n11.below hb (Nat.le_refl _), n21.below hb (Nat.le_refl _)⟩ : BaseAt w2 _ b) (HLATE.out w2 (Below.trans' hbw1 hb hbw1.size)))
    | (go_at_call 19; (with_reducible refine (HSB.out _ ?_).mono ?_); (exact (by repeat (first | with_reducible exact Below.refl _ _ | with_reducible assumption | with_reducible refine below_dn ?_ _ | with_reducible refine Below.drew ?_ | with_reducible refine Below.alloc ?_ (by first | omega | (simp; done) | (simp; omega)) _ | with_reducible refine Below.setCell ?_ (by first | omega | (simp; done) | (simp; omega)) _))); rintro e w3 ⟨rfl, hb3⟩))
  go_ret
  exact ⟨rfl, Below.trans' (Below.alloc hbw1 hbw1.size _) hb3 (by first | omega | (simp; done) | (simp; omega))⟩
end Go.Proofs.Ytmpknhefkhjfpaa
