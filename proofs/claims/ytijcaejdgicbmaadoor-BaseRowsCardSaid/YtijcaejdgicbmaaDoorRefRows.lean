/- The walk of the document's RowsOf. -/
import Derived.Test.YtijcaejdgicbmaaDoorProRows
import Derived.Deep.RegionLaw
namespace Go.Proofs.YtijcaejdgicbmaaDoor
open Go.RowKit

theorem rowsL_eq {b : Ba} {s : ByteArray} {n a z : Int} {l m : List Ent} (h1 : bookR b = some l) (h2 : rolledR l n = some m) : rowsL b s n a z = (m.filter (inRow (placeI b.names s) a z)).map rowOf := by
  unfold rowsL; rw [h1]; simp only; rw [h2]
theorem in_same (n a z : Int) (w : World) : Calls Tryd.prog 33 #[.int .i64 n, .int .i64 a, .int .i64 z] w fun e w' => e = .returned (.bool (inR n a z)) ∧ w' = w := (in_any n a z w).mono fun _ _ h => ⟨h.1, h.2.symm⟩
theorem filter_step {m : List Ent} {f : Ent → Bool} {j : Nat} (hj : j < m.length) : (m.take (j + 1)).filter f = (m.take j).filter f ++ (if f m[j] = true then [m[j]] else []) := by
  rw [List.take_succ_eq_append_getElem hj, List.filter_append]
  congr 1
  by_cases h : f m[j] = true
  · rw [if_pos h, List.filter_cons_of_pos h, List.filter_nil]
  · rw [if_neg h, List.filter_cons_of_neg h, List.filter_nil]

set_option maxRecDepth 100000 in
set_option maxHeartbeats 4000000 in
theorem refRows_any {v : Value} {b : Ba} {s : ByteArray} {n a z : Int} {w : World} (h : BaseAt w v b) (hst : ∀ s ∈ b.names, s.size ≤ 140737488351232) :
    Calls Tryd.prog 12 #[v, .string s, .int .i64 n, .int .i64 a, .int .i64 z] w (RowsPost w.heap.size w (rowsR b s n a z) (rowsE b s n a z)) := by
  have HSE := Lib.hid fun w' (hb : Below w.heap.size w w') => seriesFault_any (s := s) (h.below hb) hst
  have HBO := Lib.hid fun w' (hb : Below w.heap.size w w') => book_any (h.below hb)
  obtain ⟨sa, sc, g0, l0, p0, g1, l1, p1, g2, l2, p2, rfl, hn, hnames, T0, T1, T2⟩ := h.open
  obtain ⟨W0, hW0⟩ : ∃ W0, W0 = w.alloc (.cells (baCells sa b.names.length sc g0 l0 p0 g1 l1 p1 g2 l2 p2 b) 28) := ⟨_, rfl⟩
  have hb0 : Below w.heap.size w W0 := by rw [hW0]; exact (by repeat (first | with_reducible exact Below.refl _ _ | with_reducible assumption | with_reducible refine below_dn ?_ _ | with_reducible refine Below.drew ?_ | with_reducible refine Below.alloc ?_ (by first | omega | (simp; done) | (simp; omega) | (simp [drew_size]; done) | (simp [drew_size]; omega)) _ | with_reducible refine Below.setCell ?_ (by first | omega | (simp; done) | (simp; omega) | (simp [drew_size]; done) | (simp [drew_size]; omega)) _))
  have hz0 : W0.heap.size = w.heap.size + 1 := by rw [hW0]; simp
  have k0 : W0.heap[w.heap.size]? = some (.cells (baCells sa b.names.length sc g0 l0 p0 g1 l1 p1 g2 l2 p2 b) 28) := by rw [hW0]; exact heap_new _ _ rfl
  have HX := Lib.hid fun w' (hb : Below W0.heap.size W0 w') => (by
    have b0 : w'.heap[w.heap.size]? = _ := (hb.block _ (by omega)).trans k0
    simp [World.cell?, b0] :
    w'.cell? ⟨w.heap.size, 0, none⟩ = some (.slice sa b.names.length sc) ∧ w'.cell? ⟨w.heap.size, 1, none⟩ = some (.slice g0 l0 p0) ∧ w'.cell? ⟨w.heap.size, 2, none⟩ = some (.int .i64 b.t0.root) ∧ w'.cell? ⟨w.heap.size, 3, none⟩ = some (.slice g1 l1 p1) ∧ w'.cell? ⟨w.heap.size, 4, none⟩ = some (.int .i64 b.t1.root) ∧ w'.cell? ⟨w.heap.size, 5, none⟩ = some (.slice g2 l2 p2) ∧ w'.cell? ⟨w.heap.size, 6, none⟩ = some (.int .i64 b.t2.root) ∧ w'.cell? ⟨w.heap.size, 7, none⟩ = some (.int .i64 b.floor))
  have HB := Lib.hid fun w' (hb : Below W0.heap.size W0 w') => (Below.trans' hb0 hb hb0.size : Below w.heap.size w w')
  obtain ⟨x0, x1, x2, x3, x4, x5, x6, x7⟩ := HX.out W0 (Below.refl _ _)
  have HPL := Lib.hid fun w' (hb : Below W0.heap.size W0 w') => placeOf_any (s := s) (hnames.below (HB.out w' hb) (Nat.le_refl _))
  clear h hst hnames T0 T1 T2
  go_enter Tryd.func12, Tryd.ntmps12
  go_upto_region 1 with (fail)
  rw [← hW0]
  clear hW0 k0
  rcases seriesE_cases b s with ⟨e1, e2⟩ | ⟨e1, e2, e3⟩ | ⟨e1, e2, p, hp, e3⟩
  · obtain ⟨r1, r2⟩ := rowsE_series (n := n) (a := a) (z := z) (show seriesE b s ≠ 0 by omega)
    have HR := Lib.hid (And.intro (r1.trans e1) r2)
    rw [e1] at HSE
    clear e1 e2 r1 r2
    go_wp2_with ((go_at_call 43; (with_reducible refine (HSE.out _ hb0).mono ?_); rintro e w1 ⟨rfl, hb1⟩))
    go_ret2
    rw [HR.out.1, HR.out.2]
    exact ⟨HB.out _ hb1, _, rfl, OwnRows.nil _ _⟩
  · obtain ⟨r1, r2⟩ := rowsE_series (n := n) (a := a) (z := z) (show seriesE b s ≠ 0 by omega)
    have HR := Lib.hid (And.intro (r1.trans e1) r2)
    rw [e1] at HSE
    clear e1 e2 e3 r1 r2
    go_wp2_with ((go_at_call 43; (with_reducible refine (HSE.out _ hb0).mono ?_); rintro e w1 ⟨rfl, hb1⟩))
    go_ret2
    rw [HR.out.1, HR.out.2]
    exact ⟨HB.out _ hb1, _, rfl, OwnRows.nil _ _⟩
  · rw [e1] at HSE
    go_upto_region 2 with ((go_at_call 43; (with_reducible refine (HSE.out _ hb0).mono ?_); rintro e w1 ⟨rfl, hb1⟩; obtain ⟨x0, x1, x2, x3, x4, x5, x6, x7⟩ := HX.out _ hb1))
    have hbw1 := HB.out _ hb1
    rcases sizes_cases n with ⟨k, hk, hn3, hi⟩ | ⟨n1, n2, n3, hi⟩
    · have HSER := Lib.hid e1
      have HIN := fun w' => in_same a 0 z w'
      by_cases hr : rowsOk a z
      · obtain ⟨hr1, hr2, hr3⟩ := id hr
        have i1 : inR a 0 z = true := by simp [inR]; omega
        have i2 : decide ((1048575 : Int) < z) = false := by simp; omega
        rw [i1] at HIN
        have HI := Lib.hid HIN
        obtain ⟨l, hl, hlr, hlg, hlt⟩ := base_knows e2
        obtain ⟨m, q1, q2⟩ := hlt k hk
        rw [← hn3] at q1
        have HL := Lib.hid (show rowsL b s n a z = (m.filter (inRow p a z)).map rowOf by rw [rowsL_eq hl q1, e3])
        have HMG := Lib.hid (allT_good q2)
        have hml : m.length ≤ 50000 := (allT_good q2).2.2.2
        have HBO1 := Lib.hid (HBO.out w1 hbw1)
        rw [hl] at HBO1
        have HLG := Lib.hid hlg
        have hll : l.length ≤ 50000 := hlg.2.2
        have HROL := Lib.hid fun w' v (h : EntsAt w' v l) => rolled_any (size := n) h HLG.out (by have := szOf_cases hk hn3; omega) (by have := szOf_cases hk hn3; omega)
        rw [q1] at HROL
        have HN3 := Lib.hid hn3
        have HRO := Lib.hid hr
        rw [e3] at HPL
        clear hl hlr hlg hlt q1 q2 i1 HIN hr hr1 hr2 hr3 e1 e2 e3 hi HSE HBO hn3
        go_cut [12, 33] (fun c t wx => c = .int .i64 0 ∧ t = .bool false ∧ wx = w1)
        case first =>
          have h3 := szOf_cases hk HN3.out
          clear HN3 HL HROL HRO
          rcases h3 with rfl | rfl | rfl
          all_goals
            go_wp2
            go_meet
            exact ⟨rfl, rfl, rfl⟩
        case rest =>
          obtain ⟨rfl, rfl, hwc⟩ := hcut
          obtain rfl := hwc.symm
          go_upto_region 9 with (first | (go_at_call 33; (with_reducible refine (HI.out _).mono ?_); rintro e w2 ⟨rfl, hw2⟩; obtain rfl := hw2.symm) | (go_at_call 35; (with_reducible refine HBO1.out.mono ?_); rintro e w5 ⟨hb5, v5, rfl, ho5⟩; have hb5' := Below.trans' hb1 hb5 hb1.size; obtain ⟨s5, c5, rfl⟩ := ho5.isSlice; have HRW := Lib.hid (HROL.out w5 _ (ho5.at (by omega)))))
          clear x0 x1 x2 x3 x4 x5 x6 x7
          go_upto_region 12 with ((go_at_call 36; (with_reducible refine HRW.out.mono ?_); rintro e w6 ⟨hb6, v6, rfl, ho6⟩; have hb6' := Below.trans' hb5' hb6 hb5'.size; obtain ⟨s6, c6, rfl⟩ := ho6.isSlice))
          have HEN := Lib.hid (ho6.at (by omega))
          have hbw6 := HB.out _ hb6'
          clear ho6
          go_loopg [15, 16] m.length (fun g out i wr => ∃ j : Nat, j ≤ m.length ∧ g = m.length - j ∧ i = .int .i64 j ∧ OwnRows w6.heap.size wr out (((m.take j).filter (inRow p a z)).map rowOf) ∧ Below w6.heap.size w6 wr)
          case atStart => exact ⟨0, Nat.zero_le _, rfl, rfl, OwnRows.nil _ _, Below.refl _ _⟩
          case round =>
            obtain ⟨j, hj, rfl, rfl, hown, hb⟩ := hrel
            have hzb := hb.size
            have hbw := Below.trans' hbw6 hb hbw6.size
            have hbW0 := Below.trans' hb6' hb hb6'.size
            obtain ⟨x0, -⟩ := HX.out _ hbW0
            by_cases hlt : j < m.length
            · obtain ⟨_, _, hv, -, -, -, -, h5⟩ := HEN.out
              injection hv with hv1 _ hv3
              subst hv1 hv3
              obtain ⟨eb, eoff, hla, heb, hec⟩ := h5 (by omega)
              subst hla
              obtain ⟨y0, y1, y2, y3, y4, y5, y6⟩ := ent_cells hb heb hec hlt
              obtain ⟨y, hy⟩ : ∃ y, m[j] = y := ⟨_, rfl⟩
              rw [hy] at y0 y1 y2 y3 y4 y5 y6
              obtain ⟨hk0, hk1⟩ := HMG.out.2.2.1 y (by rw [← hy]; exact List.getElem_mem hlt)
              have HSTP := Lib.hid (filter_step (f := inRow p a z) hlt)
              rw [hy] at HSTP
              obtain ⟨M, hM⟩ : ∃ M, y.key % 1048576 = M := ⟨_, rfl⟩
              obtain ⟨Q, hQ⟩ : ∃ Q, y.key / 1048576 = Q := ⟨_, rfl⟩
              have hinr : inRow p a z y = (decide (Q = p) && inR M a z) := by simp [inRow, hM, hQ]
              have m1 : y.key.tmod 1048576 = M := by rw [Int.tmod_eq_emod_of_nonneg hk0]; exact hM
              have m2 : y.key.tdiv 1048576 = Q := by rw [Int.tdiv_eq_ediv_of_nonneg hk0]; exact hQ
              have m4 : IntKind.i64.wrap M = M := IntWalk.i64_in _ (by omega)
              have m5 : IntKind.i64.wrap Q = Q := IntWalk.i64_in _ (by omega)
              have hlo : (((m.take j).filter (inRow p a z)).map rowOf).length ≤ 1000000 := by
                rw [List.length_map]
                have := List.length_filter_le (inRow p a z) (m.take j)
                rw [List.length_take] at this
                omega
              have hix := fun w' => idx_ents (ab := eb) (aoff := eoff) (n := m.length) (cap := c6) (show (j : Int) = ((j : Nat) : Int) by rfl) hlt w'
              have hwz : eb < wr.heap.size := by omega
              obtain ⟨os, hos⟩ : ∃ os, ((m.take j).filter (inRow p a z)).map rowOf = os := ⟨_, rfl⟩
              rw [hos] at hown hlo
              obtain ⟨so, sc2, rfl⟩ := hown.isSlice
              have HIM := fun w' => in_same M a z w'
              by_cases hq : Q = p
              · have e1 : (Q == (p : Int)) = true := by simp [hq]
                by_cases hm : inR M a z = true
                · have HTK := Lib.hid (show ((m.take (j + 1)).filter (inRow p a z)).map rowOf = os ++ [⟨M, y.is⟩] by rw [HSTP.out, if_pos (by rw [hinr]; simp [hq, hm]), List.map_append, hos]; simp [rowOf, hM])
                  rw [hm] at HIM
                  have HIMh := Lib.hid HIM
                  clear hec h5 hy hM hQ hos hq hm hinr HIM
                  go_upto_region 14 with (fail)
                  go_quiet (first | (go_at_call 44; refine Calls.quiet_of_same (HPL.out _ ?_); exact (by repeat (first | with_reducible exact Below.refl _ _ | with_reducible assumption | with_reducible refine below_dn ?_ _ | with_reducible refine Below.drew ?_ | with_reducible refine Below.alloc ?_ (by first | omega | (simp; done) | (simp; omega) | (simp [drew_size]; done) | (simp [drew_size]; omega)) _ | with_reducible refine Below.setCell ?_ (by first | omega | (simp; done) | (simp; omega) | (simp [drew_size]; done) | (simp [drew_size]; omega)) _))) | (go_at_call 33; exact Calls.quiet_of_same (HIMh.out _)))
                  go_upto_region 15 with (fail)
                  generalize hW2 : wr.drewN _ = W2
                  have hown2 : OwnRows w6.heap.size W2 (.slice so os.length sc2) os := by rw [← hW2]; exact hown.drewN _
                  have hb2 : Below w6.heap.size w6 W2 := by rw [← hW2]; exact (by repeat (first | with_reducible exact Below.refl _ _ | with_reducible assumption | with_reducible refine below_dn ?_ _ | with_reducible refine Below.drew ?_ | with_reducible refine Below.alloc ?_ (by first | omega | (simp; done) | (simp; omega) | (simp [drew_size]; done) | (simp [drew_size]; omega)) _ | with_reducible refine Below.setCell ?_ (by first | omega | (simp; done) | (simp; omega) | (simp [drew_size]; done) | (simp [drew_size]; omega)) _))
                  have hz2 := hb2.size
                  have z0 : W2.cell? ⟨eb, eoff + j * 7, none⟩ = some (.int .i64 y.key) := by rw [← hW2]; exact y0
                  have z1 : W2.cell? ⟨eb, eoff + j * 7 + 1, none⟩ = some (.int .i64 y.is.c) := by rw [← hW2]; exact y1
                  have z2 : W2.cell? ⟨eb, eoff + j * 7 + 2, none⟩ = some (.int .i64 y.is.s) := by rw [← hW2]; exact y2
                  have z3 : W2.cell? ⟨eb, eoff + j * 7 + 3, none⟩ = some (.int .i64 y.is.mi) := by rw [← hW2]; exact y3
                  have z4 : W2.cell? ⟨eb, eoff + j * 7 + 4, none⟩ = some (.int .i64 y.is.ma) := by rw [← hW2]; exact y4
                  have z5 : W2.cell? ⟨eb, eoff + j * 7 + 5, none⟩ = some (.int .i64 y.is.t) := by rw [← hW2]; exact y5
                  have z6 : W2.cell? ⟨eb, eoff + j * 7 + 6, none⟩ = some (.int .i64 y.is.l) := by rw [← hW2]; exact y6
                  clear hW2 hown y0 y1 y2 y3 y4 y5 y6 x0 e1
                  go_region_law (refine step_append_row rfl (.tmp 88) (.tmp 101) rfl w6.heap.size _ os rfl (by repeat (first | assumption | with_reducible refine OwnRows.alloc ?_ _ | with_reducible refine OwnRows.drewN ?_ _ | with_reducible refine OwnRows.drew ?_)) ⟨_, 0, none⟩ ⟨M, y.is⟩ rfl (fun j u h => ent_new h) hlo (by first | omega | (simp; done) | (simp; omega) | (simp [drew_size]; done) | (simp [drew_size]; omega)) ?_; intro v4 w4 own4 hg4; have hb4 := hg4 w6.heap.size w6 (by repeat (first | with_reducible exact Below.refl _ _ | with_reducible assumption | with_reducible refine below_dn ?_ _ | with_reducible refine Below.drew ?_ | with_reducible refine Below.alloc ?_ (by first | omega | (simp; done) | (simp; omega) | (simp [drew_size]; done) | (simp [drew_size]; omega)) _ | with_reducible refine Below.setCell ?_ (by first | omega | (simp; done) | (simp; omega) | (simp [drew_size]; done) | (simp [drew_size]; omega)) _)) (Nat.le_refl _))
                  all_goals
                    go_wp2
                    go_roundg (m.length - (j + 1))
                    case measure => omega
                    case rel => exact ⟨j + 1, by omega, rfl, by go_num, by rw [HTK.out]; exact own4, hb4⟩
                · have hm : inR M a z = false := by simpa using hm
                  have HTK := Lib.hid (show ((m.take (j + 1)).filter (inRow p a z)).map rowOf = os by rw [HSTP.out, if_neg (by rw [hinr]; simp [hm]), List.append_nil, hos])
                  rw [hm] at HIM
                  have HIMh := Lib.hid HIM
                  clear hec h5 hy hM hQ hos hq hm hinr HIM
                  go_upto_region 14 with (fail)
                  go_quiet (first | (go_at_call 44; refine Calls.quiet_of_same (HPL.out _ ?_); exact (by repeat (first | with_reducible exact Below.refl _ _ | with_reducible assumption | with_reducible refine below_dn ?_ _ | with_reducible refine Below.drew ?_ | with_reducible refine Below.alloc ?_ (by first | omega | (simp; done) | (simp; omega) | (simp [drew_size]; done) | (simp [drew_size]; omega)) _ | with_reducible refine Below.setCell ?_ (by first | omega | (simp; done) | (simp; omega) | (simp [drew_size]; done) | (simp [drew_size]; omega)) _))) | (go_at_call 33; exact Calls.quiet_of_same (HIMh.out _)))
                  go_wp2
                  go_roundg (m.length - (j + 1))
                  case measure => omega
                  case rel => exact ⟨j + 1, by omega, rfl, by go_num, by rw [HTK.out]; exact (by repeat (first | assumption | with_reducible refine OwnRows.alloc ?_ _ | with_reducible refine OwnRows.drewN ?_ _ | with_reducible refine OwnRows.drew ?_)), (by repeat (first | with_reducible exact Below.refl _ _ | with_reducible assumption | with_reducible refine below_dn ?_ _ | with_reducible refine Below.drew ?_ | with_reducible refine Below.alloc ?_ (by first | omega | (simp; done) | (simp; omega) | (simp [drew_size]; done) | (simp [drew_size]; omega)) _ | with_reducible refine Below.setCell ?_ (by first | omega | (simp; done) | (simp; omega) | (simp [drew_size]; done) | (simp [drew_size]; omega)) _))⟩
              · have e1 : (Q == (p : Int)) = false := by simp [hq]
                have HTK := Lib.hid (show ((m.take (j + 1)).filter (inRow p a z)).map rowOf = os by rw [HSTP.out, if_neg (by rw [hinr]; simp [hq]), List.append_nil, hos])
                clear hec h5 hy hM hQ hos hq hinr HIM
                go_upto_region 14 with (fail)
                go_quiet (first | (go_at_call 44; refine Calls.quiet_of_same (HPL.out _ ?_); exact (by repeat (first | with_reducible exact Below.refl _ _ | with_reducible assumption | with_reducible refine below_dn ?_ _ | with_reducible refine Below.drew ?_ | with_reducible refine Below.alloc ?_ (by first | omega | (simp; done) | (simp; omega) | (simp [drew_size]; done) | (simp [drew_size]; omega)) _ | with_reducible refine Below.setCell ?_ (by first | omega | (simp; done) | (simp; omega) | (simp [drew_size]; done) | (simp [drew_size]; omega)) _))) | fail)
                go_wp2
                go_roundg (m.length - (j + 1))
                case measure => omega
                case rel => exact ⟨j + 1, by omega, rfl, by go_num, by rw [HTK.out]; exact (by repeat (first | assumption | with_reducible refine OwnRows.alloc ?_ _ | with_reducible refine OwnRows.drewN ?_ _ | with_reducible refine OwnRows.drew ?_)), (by repeat (first | with_reducible exact Below.refl _ _ | with_reducible assumption | with_reducible refine below_dn ?_ _ | with_reducible refine Below.drew ?_ | with_reducible refine Below.alloc ?_ (by first | omega | (simp; done) | (simp; omega) | (simp [drew_size]; done) | (simp [drew_size]; omega)) _ | with_reducible refine Below.setCell ?_ (by first | omega | (simp; done) | (simp; omega) | (simp [drew_size]; done) | (simp [drew_size]; omega)) _))⟩
            · have hall : m.take j = m := List.take_of_length_le (by omega)
              rw [hall] at hown
              obtain ⟨os, hos⟩ : ∃ os, (m.filter (inRow p a z)).map rowOf = os := ⟨_, rfl⟩
              have HOS := Lib.hid (HL.out.trans hos)
              rw [hos] at hown
              obtain ⟨so, sc2, rfl⟩ := hown.isSlice
              clear hall hos
              by_cases hl : 500 < os.length
              · have hld : decide ((500 : Int) < (os.length : Int)) = true := by simp; omega
                have HR := Lib.hid (rowsE_long HSER.out hk HN3.out HRO.out (by rw [HOS.out]; exact hl))
                clear hl
                go_wp2
                go_ret2
                rw [HR.out.1, HR.out.2]
                exact ⟨hbw, _, rfl, OwnRows.nil _ _⟩
              · have hld : decide ((500 : Int) < (os.length : Int)) = false := by simp; omega
                have HR := Lib.hid (rowsE_ok HSER.out hk HN3.out HRO.out (by rw [HOS.out]; exact hl))
                clear hl
                go_wp2
                go_ret2
                rw [HR.out.1, HR.out.2, HOS.out]
                exact ⟨hbw, _, rfl, hown.mono hbw6.size⟩
      · have HR := Lib.hid (rowsE_range (s := s) e1 hk hn3 hr)
        have h3 := szOf_cases hk hn3
        by_cases i1 : inR a 0 z = true
        · have i2 : decide ((1048575 : Int) < z) = true := by
            have : 0 ≤ a ∧ a ≤ z := by simpa [inR] using i1
            simp; exact Int.not_le.1 fun h => hr ⟨this.1, this.2, h⟩
          rw [i1] at HIN
          have HI := Lib.hid HIN
          clear e1 e2 e3 hr hn3 i1 HIN
          rcases h3 with rfl | rfl | rfl
          all_goals
            go_wp2_with ((go_at_call 33; (with_reducible refine (HI.out _).mono ?_); rintro e w2 ⟨rfl, hw2⟩; obtain rfl := hw2.symm))
            go_ret2
            rw [HR.out.1, HR.out.2]
            exact ⟨hbw1, _, rfl, OwnRows.nil _ _⟩
        · have i1 : inR a 0 z = false := by simpa using i1
          rw [i1] at HIN
          have HI := Lib.hid HIN
          clear e1 e2 e3 hr hn3 i1 HIN
          rcases h3 with rfl | rfl | rfl
          all_goals
            go_wp2_with ((go_at_call 33; (with_reducible refine (HI.out _).mono ?_); rintro e w2 ⟨rfl, hw2⟩; obtain rfl := hw2.symm))
            go_ret2
            rw [HR.out.1, HR.out.2]
            exact ⟨hbw1, _, rfl, OwnRows.nil _ _⟩
    · have HR := Lib.hid (rowsE_size (a := a) (z := z) e1 ⟨n1, n2, n3⟩)
      have g1 : (n != 1) = true := by simpa using n1
      have g2 : (n != 60) = true := by simpa using n2
      have g3 : (n != 3600) = true := by simpa using n3
      clear e1 e2 e3 n1 n2 n3 hi
      go_wp2
      go_ret2
      rw [HR.out.1, HR.out.2]
      exact ⟨hbw1, _, rfl, OwnRows.nil _ _⟩
end Go.Proofs.YtijcaejdgicbmaaDoor
