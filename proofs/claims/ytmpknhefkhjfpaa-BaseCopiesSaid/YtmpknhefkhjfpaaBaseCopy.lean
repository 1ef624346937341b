/- The walk of base.Copy. -/
import Derived.Test.YtmpknhefkhjfpaaBaseC
import Derived.Test.YtmpknhefkhjfpaaLawCopies
import Derived.Test.YtmpknhefkhjfpaaTurn
namespace Go.Proofs.Ytmpknhefkhjfpaa
open Go.RowKit

/-- What the loop of base.Copy has: the box block, with values that stay. -/
structure BcAt (w : World) (nv : Value) (b : Ba) (a0 a1 a2 : Value) (wr : World) : Prop where
  below : Below w.heap.size w wr
  size : w.heap.size + 2 ≤ wr.heap.size
  box : wr.heap[w.heap.size]? = some (.cells #[nv, a0, .int .i64 b.t0.root, a1, .int .i64 b.t1.root, a2, .int .i64 b.t2.root, .int .i64 b.floor] 31)
  res : wr.heap[w.heap.size + 1]? = some (.cells #[.slice none 0 0, .slice none 0 0, .int .i64 0, .slice none 0 0, .int .i64 0, .slice none 0 0, .int .i64 0, .int .i64 0] 31)
  names : ∀ w'', Below w.heap.size w w'' → Keep (w.heap.size + 2) wr w'' → StrsAt w'' nv b.names
  n0 : ∀ w'', Below w.heap.size w w'' → Keep (w.heap.size + 2) wr w'' → NodesAt w'' a0 b.t0.nodes
  n1 : ∀ w'', Below w.heap.size w w'' → Keep (w.heap.size + 2) wr w'' → NodesAt w'' a1 b.t1.nodes
  n2 : ∀ w'', Below w.heap.size w w'' → Keep (w.heap.size + 2) wr w'' → NodesAt w'' a2 b.t2.nodes

theorem BcAt.step0 {w : World} {nv : Value} {b : Ba} {a0 a1 a2 a' : Value} {wr w5 : World} (h : BcAt w nv b a0 a1 a2 wr) (hb5 : Below wr.heap.size wr w5) (HK : ∀ w'', Keep wr.heap.size w5 w'' → NodesAt w'' a' b.t0.nodes) :
    BcAt w nv b a' a1 a2 ((w5.setCell ⟨w.heap.size, 1, none⟩ a').setCell ⟨w.heap.size, 2, none⟩ (.int .i64 b.t0.root)) := by
  have hsz := h.size
  have hs5 := hb5.size
  have hb : Below w.heap.size w w5 := Below.trans' h.below hb5 h.below.size
  have hp : w.heap.size < w.heap.size + 2 := by omega
  have K0 : Keep (w.heap.size + 2) wr ((w5.setCell ⟨w.heap.size, 1, none⟩ a').setCell ⟨w.heap.size, 2, none⟩ (.int .i64 b.t0.root)) := ((Keep.of hb5 (Nat.le_refl _)).set hp _).set hp _
  refine ⟨(by repeat (first | with_reducible exact Below.refl _ _ | with_reducible assumption | with_reducible refine below_dn ?_ _ | with_reducible refine Below.drew ?_ | with_reducible refine Below.alloc ?_ (by first | omega | (simp; done) | (simp; omega)) _ | with_reducible refine Below.setCell ?_ (by first | omega | (simp; done) | (simp; omega)) _)), by simp [heap_setCell_size]; omega, ?_, ?_, fun w'' hb hk => h.names w'' hb (K0.trans hk), fun w'' hb hk => HK w'' ((((Keep.refl _ _).set hp _).set hp _).trans hk |>.mono h.size), fun w'' hb hk => h.n1 w'' hb (K0.trans hk), fun w'' hb hk => h.n2 w'' hb (K0.trans hk)⟩
  · have h0 := heap_setCell_same (off := 2) (v := .int .i64 b.t0.root) (heap_setCell_same (off := 1) (v := a') ((hb5.block _ (by omega)).trans h.box))
    simpa using h0
  · rw [Below.heap_setCell _ _ _ _ (by show w.heap.size + 1 ≠ w.heap.size; omega), Below.heap_setCell _ _ _ _ (by show w.heap.size + 1 ≠ w.heap.size; omega)]
    exact (hb5.block _ (by omega)).trans h.res
theorem BcAt.step1 {w : World} {nv : Value} {b : Ba} {a0 a1 a2 a' : Value} {wr w5 : World} (h : BcAt w nv b a0 a1 a2 wr) (hb5 : Below wr.heap.size wr w5) (HK : ∀ w'', Keep wr.heap.size w5 w'' → NodesAt w'' a' b.t1.nodes) :
    BcAt w nv b a0 a' a2 ((w5.setCell ⟨w.heap.size, 3, none⟩ a').setCell ⟨w.heap.size, 4, none⟩ (.int .i64 b.t1.root)) := by
  have hsz := h.size
  have hs5 := hb5.size
  have hb : Below w.heap.size w w5 := Below.trans' h.below hb5 h.below.size
  have hp : w.heap.size < w.heap.size + 2 := by omega
  have K0 : Keep (w.heap.size + 2) wr ((w5.setCell ⟨w.heap.size, 3, none⟩ a').setCell ⟨w.heap.size, 4, none⟩ (.int .i64 b.t1.root)) := ((Keep.of hb5 (Nat.le_refl _)).set hp _).set hp _
  refine ⟨(by repeat (first | with_reducible exact Below.refl _ _ | with_reducible assumption | with_reducible refine below_dn ?_ _ | with_reducible refine Below.drew ?_ | with_reducible refine Below.alloc ?_ (by first | omega | (simp; done) | (simp; omega)) _ | with_reducible refine Below.setCell ?_ (by first | omega | (simp; done) | (simp; omega)) _)), by simp [heap_setCell_size]; omega, ?_, ?_, fun w'' hb hk => h.names w'' hb (K0.trans hk), fun w'' hb hk => h.n0 w'' hb (K0.trans hk), fun w'' hb hk => HK w'' ((((Keep.refl _ _).set hp _).set hp _).trans hk |>.mono h.size), fun w'' hb hk => h.n2 w'' hb (K0.trans hk)⟩
  · have h0 := heap_setCell_same (off := 4) (v := .int .i64 b.t1.root) (heap_setCell_same (off := 3) (v := a') ((hb5.block _ (by omega)).trans h.box))
    simpa using h0
  · rw [Below.heap_setCell _ _ _ _ (by show w.heap.size + 1 ≠ w.heap.size; omega), Below.heap_setCell _ _ _ _ (by show w.heap.size + 1 ≠ w.heap.size; omega)]
    exact (hb5.block _ (by omega)).trans h.res
theorem BcAt.step2 {w : World} {nv : Value} {b : Ba} {a0 a1 a2 a' : Value} {wr w5 : World} (h : BcAt w nv b a0 a1 a2 wr) (hb5 : Below wr.heap.size wr w5) (HK : ∀ w'', Keep wr.heap.size w5 w'' → NodesAt w'' a' b.t2.nodes) :
    BcAt w nv b a0 a1 a' ((w5.setCell ⟨w.heap.size, 5, none⟩ a').setCell ⟨w.heap.size, 6, none⟩ (.int .i64 b.t2.root)) := by
  have hsz := h.size
  have hs5 := hb5.size
  have hb : Below w.heap.size w w5 := Below.trans' h.below hb5 h.below.size
  have hp : w.heap.size < w.heap.size + 2 := by omega
  have K0 : Keep (w.heap.size + 2) wr ((w5.setCell ⟨w.heap.size, 5, none⟩ a').setCell ⟨w.heap.size, 6, none⟩ (.int .i64 b.t2.root)) := ((Keep.of hb5 (Nat.le_refl _)).set hp _).set hp _
  refine ⟨(by repeat (first | with_reducible exact Below.refl _ _ | with_reducible assumption | with_reducible refine below_dn ?_ _ | with_reducible refine Below.drew ?_ | with_reducible refine Below.alloc ?_ (by first | omega | (simp; done) | (simp; omega)) _ | with_reducible refine Below.setCell ?_ (by first | omega | (simp; done) | (simp; omega)) _)), by simp [heap_setCell_size]; omega, ?_, ?_, fun w'' hb hk => h.names w'' hb (K0.trans hk), fun w'' hb hk => h.n0 w'' hb (K0.trans hk), fun w'' hb hk => h.n1 w'' hb (K0.trans hk), fun w'' hb hk => HK w'' ((((Keep.refl _ _).set hp _).set hp _).trans hk |>.mono h.size)⟩
  · have h0 := heap_setCell_same (off := 6) (v := .int .i64 b.t2.root) (heap_setCell_same (off := 5) (v := a') ((hb5.block _ (by omega)).trans h.box))
    simpa using h0
  · rw [Below.heap_setCell _ _ _ _ (by show w.heap.size + 1 ≠ w.heap.size; omega), Below.heap_setCell _ _ _ _ (by show w.heap.size + 1 ≠ w.heap.size; omega)]
    exact (hb5.block _ (by omega)).trans h.res
theorem BcAt.cells {w : World} {nv : Value} {b : Ba} {a0 a1 a2 : Value} {wr : World} (h : BcAt w nv b a0 a1 a2 wr) : wr.cell? ⟨w.heap.size, 0, none⟩ = some nv ∧ wr.cell? ⟨w.heap.size, 1, none⟩ = some a0 ∧ wr.cell? ⟨w.heap.size, 2, none⟩ = some (.int .i64 b.t0.root) ∧ wr.cell? ⟨w.heap.size, 3, none⟩ = some a1 ∧ wr.cell? ⟨w.heap.size, 4, none⟩ = some (.int .i64 b.t1.root) ∧ wr.cell? ⟨w.heap.size, 5, none⟩ = some a2 ∧ wr.cell? ⟨w.heap.size, 6, none⟩ = some (.int .i64 b.t2.root) ∧ wr.cell? ⟨w.heap.size, 7, none⟩ = some (.int .i64 b.floor) ∧ ∀ o, wr.frozen? ⟨w.heap.size, o, none⟩ = false := by
  simp [World.cell?, World.frozen?, h.box]
theorem BcAt.rcells {w : World} {nv : Value} {b : Ba} {a0 a1 a2 : Value} {wr : World} (h : BcAt w nv b a0 a1 a2 wr) : wr.cell? ⟨w.heap.size + 1, 0, none⟩ = some (.slice none 0 0) ∧ wr.cell? ⟨w.heap.size + 1, 1, none⟩ = some (.slice none 0 0) ∧ wr.cell? ⟨w.heap.size + 1, 2, none⟩ = some (.int .i64 0) ∧ wr.cell? ⟨w.heap.size + 1, 3, none⟩ = some (.slice none 0 0) ∧ wr.cell? ⟨w.heap.size + 1, 4, none⟩ = some (.int .i64 0) ∧ wr.cell? ⟨w.heap.size + 1, 5, none⟩ = some (.slice none 0 0) ∧ wr.cell? ⟨w.heap.size + 1, 6, none⟩ = some (.int .i64 0) ∧ wr.cell? ⟨w.heap.size + 1, 7, none⟩ = some (.int .i64 0) ∧ ∀ o, wr.frozen? ⟨w.heap.size + 1, o, none⟩ = false := by
  simp [World.cell?, World.frozen?, h.res]

set_option maxRecDepth 100000 in
set_option maxHeartbeats 1000000 in
theorem baseCopy_any {v : Value} {b : Ba} {w : World} (h : BaseAt w v b) :
    Calls Try.prog 18 #[v] w fun e w' => (∃ v', e = .returned v' ∧ BaseAt w' v' b) ∧ Below w.heap.size w w' := by
  obtain ⟨nv, a0, a1, a2, rfl, hs, h0, h1, h2⟩ := h
  obtain ⟨sa, sn, sc, rfl⟩ : ∃ a n c, nv = .slice a n c := by obtain ⟨a, c, h⟩ := hs.isSlice; exact ⟨a, _, c, h⟩
  obtain ⟨g0, l0, p0, rfl⟩ := nodes_slice h0
  obtain ⟨g1, l1, p1, rfl⟩ := nodes_slice h1
  obtain ⟨g2, l2, p2, rfl⟩ := nodes_slice h2
  have HC := Lib.hid fun w' (hb : Below w.heap.size w w') => cloneStr_any (hs.below hb (Nat.le_refl _))
  obtain ⟨W0, hW0⟩ : ∃ W0, W0 = (w.alloc (.cells #[.slice sa sn sc, .slice g0 l0 p0, .int .i64 b.t0.root, .slice g1 l1 p1, .int .i64 b.t1.root, .slice g2 l2 p2, .int .i64 b.t2.root, .int .i64 b.floor] 31)).alloc (.cells #[.slice none 0 0, .slice none 0 0, .int .i64 0, .slice none 0 0, .int .i64 0, .slice none 0 0, .int .i64 0, .int .i64 0] 31) := ⟨_, rfl⟩
  have hb0 : Below w.heap.size w W0 := by rw [hW0]; exact (by repeat (first | with_reducible exact Below.refl _ _ | with_reducible assumption | with_reducible refine below_dn ?_ _ | with_reducible refine Below.drew ?_ | with_reducible refine Below.alloc ?_ (by first | omega | (simp; done) | (simp; omega)) _ | with_reducible refine Below.setCell ?_ (by first | omega | (simp; done) | (simp; omega)) _))
  have hz0 : W0.heap.size = w.heap.size + 2 := by rw [hW0]; simp
  have k0 : W0.heap[w.heap.size]? = some (.cells #[.slice sa sn sc, .slice g0 l0 p0, .int .i64 b.t0.root, .slice g1 l1 p1, .int .i64 b.t1.root, .slice g2 l2 p2, .int .i64 b.t2.root, .int .i64 b.floor] 31) := by
    rw [hW0, Below.heap_alloc _ _ _ (by simp)]; exact heap_new _ _ rfl
  have k1 : W0.heap[w.heap.size + 1]? = some (.cells #[.slice none 0 0, .slice none 0 0, .int .i64 0, .slice none 0 0, .int .i64 0, .slice none 0 0, .int .i64 0, .int .i64 0] 31) := by
    rw [hW0]; exact heap_new _ _ (by simp)
  have q0 : W0.cell? ⟨w.heap.size, 0, none⟩ = some (.slice sa sn sc) := by simp [World.cell?, k0]
  have qf : ∀ o, W0.frozen? ⟨w.heap.size, o, none⟩ = false := fun o => by simp [World.frozen?, k0]
  go_enter Try.func18, Try.ntmps18
  go_upto_region 1 with (fail)
  rw [← hW0]
  clear hW0
  go_upto_region 2 with ((go_at_call 38; (with_reducible refine (HC.out _ hb0).mono ?_); rintro e w1 ⟨nv', rfl, hown, hb1⟩; obtain ⟨s', c', rfl⟩ := owns_slice hown; obtain ⟨k1', k2', k3'⟩ := keep1 hb1 (B := w.heap.size) (by omega)))
  obtain ⟨W2, hW2⟩ : ∃ W2, W2 = w1.setCell ⟨w.heap.size, 0, none⟩ (.slice s' b.names.length c') := ⟨_, rfl⟩
  have hst : BcAt w (.slice s' b.names.length c') b (.slice g0 l0 p0) (.slice g1 l1 p1) (.slice g2 l2 p2) W2 := by
    have hbw : Below w.heap.size w w1 := Below.trans' hb0 hb1 hb0.size
    have hs1 := hb1.size
    rw [hW2]
    refine ⟨(by repeat (first | with_reducible exact Below.refl _ _ | with_reducible assumption | with_reducible refine below_dn ?_ _ | with_reducible refine Below.drew ?_ | with_reducible refine Below.alloc ?_ (by first | omega | (simp; done) | (simp; omega)) _ | with_reducible refine Below.setCell ?_ (by first | omega | (simp; done) | (simp; omega)) _)), by simp [heap_setCell_size]; omega, ?_, ?_, fun w'' hb hk => ?_, fun w'' hb _ => h0.below hb (Nat.le_refl _), fun w'' hb _ => h1.below hb (Nat.le_refl _), fun w'' hb _ => h2.below hb (Nat.le_refl _)⟩
    · have h0 := heap_setCell_same (off := 0) (v := .slice s' b.names.length c') ((hb1.block _ (by omega)).trans k0)
      simpa using h0
    · rw [Below.heap_setCell _ _ _ _ (by show w.heap.size + 1 ≠ w.heap.size; omega)]
      exact (hb1.block _ (by omega)).trans k1
    · refine SlAt.owned enStr_length (owns_keep hown (((Keep.refl _ _).set (by show w.heap.size < w.heap.size + 2; omega) _).trans hk) (by omega)) rfl ?_
      obtain ⟨_, _, _, _, _, h, _⟩ := hs; exact h
  rw [← hW2]
  have HST := Lib.hid hst
  clear hst hW2 k0 k1 q0 qf hown hb1 k1' k2' k3' HC h0 h1 h2 hs
  go_wp2_with fail
  go_loopg [8] 3 (fun g i wr => ∃ (k : Nat) (a0 a1 a2 : Value), k ≤ 3 ∧ g = 3 - k ∧ i = .int .i64 k ∧ Hid (BcAt w (.slice s' b.names.length c') b a0 a1 a2 wr))
  case atStart => exact ⟨0, _, _, _, by omega, rfl, rfl, HST⟩
  case round =>
    obtain ⟨k, a0, a1, a2, hk, rfl, rfl, HB⟩ := hrel
    obtain ⟨g0, l0, p0, rfl⟩ := nodes_slice (HB.out.n0 wr HB.out.below (Keep.refl _ _))
    obtain ⟨g1, l1, p1, rfl⟩ := nodes_slice (HB.out.n1 wr HB.out.below (Keep.refl _ _))
    obtain ⟨g2, l2, p2, rfl⟩ := nodes_slice (HB.out.n2 wr HB.out.below (Keep.refl _ _))
    obtain ⟨c0, c1, c2, c3, c4, c5, c6, c7, cf⟩ := HB.out.cells
    have hsz := HB.out.size
    by_cases hlt : k < 3
    · obtain rfl | rfl | rfl : k = 0 ∨ k = 1 ∨ k = 2 := by omega
      · have HT := Lib.hid (treeCopy_keep (root := .int .i64 b.t0.root) (HB.out.n0 wr HB.out.below (Keep.refl _ _)) ⟨_, rfl⟩)
        go_wp2_with ((go_at_call 16; (with_reducible refine HT.out.mono ?_); rintro e w5 ⟨a', rfl, HK, hb5⟩; obtain ⟨g', l', p', rfl⟩ := nodes_slice (HK w5 (Keep.refl _ _)); obtain ⟨k1', k2', k3'⟩ := keep1 hb5 (B := w.heap.size) (by omega)))
        go_roundg 2
        case measure => omega
        case rel => exact ⟨1, (.slice g' l' p'), (.slice g1 l1 p1), (.slice g2 l2 p2), by omega, rfl, by go_num, Lib.hid (HB.out.step0 hb5 HK)⟩
      · have HT := Lib.hid (treeCopy_keep (root := .int .i64 b.t1.root) (HB.out.n1 wr HB.out.below (Keep.refl _ _)) ⟨_, rfl⟩)
        go_wp2_with ((go_at_call 16; (with_reducible refine HT.out.mono ?_); rintro e w5 ⟨a', rfl, HK, hb5⟩; obtain ⟨g', l', p', rfl⟩ := nodes_slice (HK w5 (Keep.refl _ _)); obtain ⟨k1', k2', k3'⟩ := keep1 hb5 (B := w.heap.size) (by omega)))
        go_roundg 1
        case measure => omega
        case rel => exact ⟨2, (.slice g0 l0 p0), (.slice g' l' p'), (.slice g2 l2 p2), by omega, rfl, by go_num, Lib.hid (HB.out.step1 hb5 HK)⟩
      · have HT := Lib.hid (treeCopy_keep (root := .int .i64 b.t2.root) (HB.out.n2 wr HB.out.below (Keep.refl _ _)) ⟨_, rfl⟩)
        go_wp2_with ((go_at_call 16; (with_reducible refine HT.out.mono ?_); rintro e w5 ⟨a', rfl, HK, hb5⟩; obtain ⟨g', l', p', rfl⟩ := nodes_slice (HK w5 (Keep.refl _ _)); obtain ⟨k1', k2', k3'⟩ := keep1 hb5 (B := w.heap.size) (by omega)))
        go_roundg 0
        case measure => omega
        case rel => exact ⟨3, (.slice g0 l0 p0), (.slice g1 l1 p1), (.slice g' l' p'), by omega, rfl, by go_num, Lib.hid (HB.out.step2 hb5 HK)⟩
    · obtain rfl : k = 3 := by omega
      obtain ⟨z0, z1, z2, z3, z4, z5, z6, z7, zf⟩ := HB.out.rcells
      have hbw := HB.out.below
      have K1 : ∀ w'', Below w.heap.size w w'' → Keep (w.heap.size + 2) wr w'' → BaseAt w'' (.agg #[.slice s' b.names.length c', .slice g0 l0 p0, .int .i64 b.t0.root, .slice g1 l1 p1, .int .i64 b.t1.root, .slice g2 l2 p2, .int .i64 b.t2.root, .int .i64 b.floor]) b := fun w'' hb hk => ⟨_, _, _, _, rfl, HB.out.names w'' hb hk, HB.out.n0 w'' hb hk, HB.out.n1 w'' hb hk, HB.out.n2 w'' hb hk⟩
      have HK1 := Lib.hid K1
      clear K1
      go_wp2
      refine bodyPost_ret (v := .agg #[.slice s' b.names.length c', .slice g0 l0 p0, .int .i64 b.t0.root, .slice g1 l1 p1, .int .i64 b.t1.root, .slice g2 l2 p2, .int .i64 b.t2.root, .int .i64 b.floor]) (by simp [results, Try.results18, go_sem, *]) rfl ⟨⟨_, rfl, ?_⟩, ?_⟩
      · refine HK1.out _ (by repeat (first | with_reducible exact Below.refl _ _ | with_reducible assumption | with_reducible refine below_dn ?_ _ | with_reducible refine Below.drew ?_ | with_reducible refine Below.alloc ?_ (by first | omega | (simp; done) | (simp; omega)) _ | with_reducible refine Below.setCell ?_ (by first | omega | (simp; done) | (simp; omega)) _)) ?_
        repeat (first | with_reducible exact Keep.refl _ _ | with_reducible refine Keep.set ?_ (by show w.heap.size + 1 < w.heap.size + 2; omega) _)
      · exact (by repeat (first | with_reducible exact Below.refl _ _ | with_reducible assumption | with_reducible refine below_dn ?_ _ | with_reducible refine Below.drew ?_ | with_reducible refine Below.alloc ?_ (by first | omega | (simp; done) | (simp; omega)) _ | with_reducible refine Below.setCell ?_ (by first | omega | (simp; done) | (simp; omega)) _))
end Go.Proofs.Ytmpknhefkhjfpaa
