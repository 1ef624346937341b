/- The walk of base.points: what is known of each time. -/
import Derived.Test.YtijcaejdgicbmaaDoorAllM
import Derived.Test.YtijcaejdgicbmaaDoorBaseMay
namespace Go.Proofs.YtijcaejdgicbmaaDoor
open Go.RowKit

set_option maxRecDepth 100000 in
set_option maxHeartbeats 1000000 in
theorem points_any {v : Value} {b : Ba} {w : World} (h : BaseAt w v b) :
    Calls Tryd.prog 29 #[v] w (RolPost w.heap.size w (bookR b)) := by
  obtain ⟨sa, sc, g0, l0, p0, g1, l1, p1, g2, l2, p2, rfl, hn, _, T0, _, _⟩ := h.open
  obtain ⟨W0, hW0⟩ : ∃ W0, W0 = w.alloc (.cells (baCells sa b.names.length sc g0 l0 p0 g1 l1 p1 g2 l2 p2 b) 28) := ⟨_, rfl⟩
  have hb0 : Below w.heap.size w W0 := by rw [hW0]; exact (by repeat (first | with_reducible exact Below.refl _ _ | with_reducible assumption | with_reducible refine below_dn ?_ _ | with_reducible refine Below.drew ?_ | with_reducible refine Below.alloc ?_ (by first | omega | (simp; done) | (simp; omega) | (simp [drew_size]; done) | (simp [drew_size]; omega)) _ | with_reducible refine Below.setCell ?_ (by first | omega | (simp; done) | (simp; omega) | (simp [drew_size]; done) | (simp [drew_size]; omega)) _))
  have hz0 : W0.heap.size = w.heap.size + 1 := by rw [hW0]; simp
  have k0 : W0.heap[w.heap.size]? = some (.cells (baCells sa b.names.length sc g0 l0 p0 g1 l1 p1 g2 l2 p2 b) 28) := by rw [hW0]; exact heap_new _ _ rfl
  have HX := Lib.hid fun w' (hb : Below W0.heap.size W0 w') => (by
    have b0 : w'.heap[w.heap.size]? = _ := (hb.block _ (by omega)).trans k0
    simp [World.cell?, b0] :
    w'.cell? ⟨w.heap.size, 0, none⟩ = some (.slice sa b.names.length sc) ∧ w'.cell? ⟨w.heap.size, 7, none⟩ = some (.int .i64 b.floor))
  have HB := Lib.hid fun w' (hb : Below W0.heap.size W0 w') => (Below.trans' hb0 hb hb0.size : Below w.heap.size w w')
  have HA := Lib.hid ((all_any (lo := 0) (hi := 1099511627776) (T0 W0 hb0)).mono fun e w' hp => AllPost.allT hp)
  obtain ⟨c1, c2⟩ : W0.cell? ⟨w.heap.size, 1, none⟩ = some (.slice g0 l0 p0) ∧ W0.cell? ⟨w.heap.size, 2, none⟩ = some (.int .i64 b.t0.root) := by simp [World.cell?, k0]
  clear T0
  go_enter Tryd.func29, Tryd.ntmps29
  go_upto_region 1 with (fail)
  rw [← hW0]
  clear hW0 k0
  cases hT : allT b.t0 with
  | none =>
    have HN := Lib.hid (book_none hT)
    rw [hT] at HA
    clear hT
    go_wp2_with ((go_at_call 31; (with_reducible refine HA.out.mono ?_); rintro e w1 ⟨hb1, E, hE, rfl⟩; have hbw := HB.out _ hb1))
    go_ret2
    rw [HN.out]
    exact ⟨hbw, rfl⟩
  | some l =>
    have HT := Lib.hid hT
    have HG := Lib.hid (allT_good hT)
    have hlen : l.length ≤ 50000 := (allT_good hT).2.2.2
    rw [hT] at HA
    clear hT
    go_upto_region 4 with ((go_at_call 31; (with_reducible refine HA.out.mono ?_); rintro e w1 ⟨hb1, v1, rfl, ho1⟩; obtain ⟨s1, d1, rfl⟩ := ho1.isSlice))
    have HL := Lib.hid (ho1.at (by omega))
    have HO := Lib.hid ho1
    have hz1 := hb1.size
    clear c1 c2 ho1
    go_wp2_with fail
    go_loopg [20] l.length (fun g i wr => ∃ k : Nat, k ≤ l.length ∧ g = l.length - k ∧ i = .int .i64 k ∧ Hid ((l.take k).all (bookOk b) = true) ∧ Below w1.heap.size w1 wr)
    case atStart => exact ⟨0, Nat.zero_le _, rfl, rfl, Lib.hid rfl, Below.refl _ _⟩
    case round =>
      obtain ⟨k, hk, rfl, rfl, HR, hb⟩ := hrel
      have hsz := hb.size
      have hbB : Below W0.heap.size W0 wr := Below.trans' hb1 hb hz1
      obtain ⟨x0, x7⟩ := HX.out _ hbB
      by_cases hlt : k < l.length
      · obtain ⟨_, _, hv, -, -, -, -, h5⟩ := HL.out
        injection hv with hv1 _ hv3
        subst hv3
        obtain ⟨eb, eoff, hla, heb, hec⟩ := h5 (by omega)
        subst hla
        subst hv1
        obtain ⟨y0, y1, y2, y3, y4, y5, y6⟩ := ent_cells hb heb hec hlt
        obtain ⟨y, hy⟩ : ∃ y, l[k] = y := ⟨_, rfl⟩
        rw [hy] at y0 y1 y2 y3 y4 y5 y6
        have hyl : y ∈ l := by rw [← hy]; exact List.getElem_mem hlt
        obtain ⟨hk0, hk1⟩ := HG.out.2.2.1 y hyl
        have HBAD := Lib.hid fun (h : bookOk b y = false) => book_bad HT.out hlt (by rw [hy]; exact h)
        have HGOOD := Lib.hid fun (h : bookOk b y = true) => (by rw [List.take_succ_eq_append_getElem hlt, List.all_append, HR.out, hy]; simp [h] : (l.take (k + 1)).all (bookOk b) = true)
        obtain ⟨M, hM⟩ : ∃ M, y.key % 1048576 = M := ⟨_, rfl⟩
        obtain ⟨Q, hQ⟩ : ∃ Q, y.key / 1048576 = Q := ⟨_, rfl⟩
        have hM0 : 0 ≤ M ∧ M < 1048576 := by omega
        have hQ0 : 0 ≤ Q ∧ Q < 1048576 := by omega
        have m1 : y.key.tmod 1048576 = M := by rw [Int.tmod_eq_emod_of_nonneg hk0]; exact hM
        have m2 : y.key.tdiv 1048576 = Q := by rw [Int.tdiv_eq_ediv_of_nonneg hk0]; exact hQ
        have m3 : IntKind.i64.wrap M = M := IntWalk.i64_in _ (by omega)
        have m4 : IntKind.i64.wrap Q = Q := IntWalk.i64_in _ (by omega)
        have HOK := Lib.hid (show bookOk b y = (decide (Q < b.names.length) && decide (b.floor ≤ M) && decide (y.is.t = M)) by simp [bookOk, hM, hQ])
        have hix := fun w' => idx_ents (ab := eb) (aoff := eoff) (n := l.length) (cap := d1) (show (k : Int) = ((k : Nat) : Int) by rfl) hlt w'
        have hwz : eb < wr.heap.size := by omega
        have hbN : Below w.heap.size w wr := HB.out _ hbB
        obtain ⟨W1, hW1⟩ : ∃ W1, W1 = wr.alloc (.cells #[.int .i64 y.key, .int .i64 y.is.c, .int .i64 y.is.s, .int .i64 y.is.mi, .int .i64 y.is.ma, .int .i64 y.is.t, .int .i64 y.is.l] 70) := ⟨_, rfl⟩
        have hb1 : Below wr.heap.size wr W1 := by rw [hW1]; exact (by repeat (first | with_reducible exact Below.refl _ _ | with_reducible assumption | with_reducible refine below_dn ?_ _ | with_reducible refine Below.drew ?_ | with_reducible refine Below.alloc ?_ (by first | omega | (simp; done) | (simp; omega) | (simp [drew_size]; done) | (simp [drew_size]; omega)) _ | with_reducible refine Below.setCell ?_ (by first | omega | (simp; done) | (simp; omega) | (simp [drew_size]; done) | (simp [drew_size]; omega)) _))
        have k1 : W1.heap[wr.heap.size]? = some (.cells #[.int .i64 y.key, .int .i64 y.is.c, .int .i64 y.is.s, .int .i64 y.is.mi, .int .i64 y.is.ma, .int .i64 y.is.t, .int .i64 y.is.l] 70) := by rw [hW1]; exact heap_new _ _ rfl
        have hbn : Below w1.heap.size w1 W1 := Below.trans' hb hb1 hsz
        have hbNn : Below w.heap.size w W1 := Below.trans' hbN hb1 hbN.size
        obtain ⟨z0, z7⟩ := HX.out _ (Below.trans' hbB hb1 hbB.size)
        obtain ⟨q0, q5⟩ : W1.cell? ⟨wr.heap.size, 0, none⟩ = some (.int .i64 y.key) ∧ W1.cell? ⟨wr.heap.size, 5, none⟩ = some (.int .i64 y.is.t) := by simp [World.cell?, k1]
        clear hec h5 hy hyl hM hQ hM0 hQ0 hbB
        go_upto_region 7 with (fail)
        rw [← hW1]
        clear hW1 k1 x0 x7 y0 y1 y2 y3 y4 y5 y6
        by_cases i1 : Q < b.names.length
        · have e1 : decide ((b.names.length : Int) ≤ Q) = false := by simp; omega
          by_cases i2 : b.floor ≤ M
          · have e2 : decide (M < b.floor) = false := by simp; omega
            by_cases i3 : y.is.t = M
            · have e3 : (y.is.t != M) = false := by simp [i3]
              have HGD := Lib.hid (HGOOD.out (by rw [HOK.out]; simp [i1, i2, i3]))
              clear i1 i2 i3 HGOOD HBAD HOK
              go_wp2
              go_roundg (l.length - (k + 1))
              case measure => omega
              case rel => exact ⟨k + 1, by omega, rfl, by go_num, HGD, (by repeat (first | with_reducible exact Below.refl _ _ | with_reducible assumption | with_reducible refine below_dn ?_ _ | with_reducible refine Below.drew ?_ | with_reducible refine Below.alloc ?_ (by first | omega | (simp; done) | (simp; omega) | (simp [drew_size]; done) | (simp [drew_size]; omega)) _ | with_reducible refine Below.setCell ?_ (by first | omega | (simp; done) | (simp; omega) | (simp [drew_size]; done) | (simp [drew_size]; omega)) _))⟩
            · have e3 : (y.is.t != M) = true := by simp [i3]
              have HBD := Lib.hid (HBAD.out (by rw [HOK.out]; simp [i3]))
              clear i1 i2 i3 HGOOD HBAD HOK
              go_wp2
              go_ret2
              rw [HBD.out]
              exact ⟨(by repeat (first | with_reducible exact Below.refl _ _ | with_reducible assumption | with_reducible refine below_dn ?_ _ | with_reducible refine Below.drew ?_ | with_reducible refine Below.alloc ?_ (by first | omega | (simp; done) | (simp; omega) | (simp [drew_size]; done) | (simp [drew_size]; omega)) _ | with_reducible refine Below.setCell ?_ (by first | omega | (simp; done) | (simp; omega) | (simp [drew_size]; done) | (simp [drew_size]; omega)) _)), rfl⟩
          · have e2 : decide (M < b.floor) = true := by simp; omega
            have HBD := Lib.hid (HBAD.out (by rw [HOK.out]; simp [i2]))
            clear i1 i2 HGOOD HBAD HOK
            go_wp2
            go_ret2
            rw [HBD.out]
            exact ⟨(by repeat (first | with_reducible exact Below.refl _ _ | with_reducible assumption | with_reducible refine below_dn ?_ _ | with_reducible refine Below.drew ?_ | with_reducible refine Below.alloc ?_ (by first | omega | (simp; done) | (simp; omega) | (simp [drew_size]; done) | (simp [drew_size]; omega)) _ | with_reducible refine Below.setCell ?_ (by first | omega | (simp; done) | (simp; omega) | (simp [drew_size]; done) | (simp [drew_size]; omega)) _)), rfl⟩
        · have e1 : decide ((b.names.length : Int) ≤ Q) = true := by simp; omega
          have HBD := Lib.hid (HBAD.out (by rw [HOK.out]; simp [i1]))
          clear i1 HGOOD HBAD HOK
          go_wp2
          go_ret2
          rw [HBD.out]
          exact ⟨(by repeat (first | with_reducible exact Below.refl _ _ | with_reducible assumption | with_reducible refine below_dn ?_ _ | with_reducible refine Below.drew ?_ | with_reducible refine Below.alloc ?_ (by first | omega | (simp; done) | (simp; omega) | (simp [drew_size]; done) | (simp [drew_size]; omega)) _ | with_reducible refine Below.setCell ?_ (by first | omega | (simp; done) | (simp; omega) | (simp [drew_size]; done) | (simp [drew_size]; omega)) _)), rfl⟩
      · have HN := Lib.hid (book_ok HT.out (by have := HR.out; rw [List.take_of_length_le (by omega)] at this; exact this))
        have hbN : Below w.heap.size w wr := HB.out _ hbB
        have ho := (HO.out.below hb (Nat.le_refl _)).mono (show w.heap.size ≤ W0.heap.size by omega)
        clear hbB
        go_wp2
        go_ret2
        rw [HN.out]
        exact ⟨hbN, _, rfl, ho⟩
end Go.Proofs.YtijcaejdgicbmaaDoor
