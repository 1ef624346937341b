/- Texts of mine that come as one: EntsF RefExp. -/
import Derived.Test.YtijcaejdgicbmaaDoorPU
import Derived.Test.YtijcaejdgicbmaaDoorMay
import Derived.Test.YtijcaejdgicbmaaDoorEX
import Derived.Test.YtijcaejdgicbmaaDoorBK
import Derived.Test.YtijcaejdgicbmaaDoorRG
import Derived.Test.YtijcaejdgicbmaaDoorKG
/- The walk of the reference's EntriesFault. -/
namespace Go.Proofs.YtijcaejdgicbmaaDoor
open Go.RowKit

theorem entsE_stop {l : List Ent} {k : Nat} (h : entsE none l = entsE (lastK l k) (l.drop k)) (hk : l.length ≤ k) : entsE none l = 0 := by rw [h, List.drop_eq_nil_of_le hk]; rfl
end Go.Proofs.YtijcaejdgicbmaaDoor

/- The walk of the document's ExpiredOf. -/
namespace Go.Proofs.YtijcaejdgicbmaaDoor
open Go.RowKit

/-- What is wrong and what is left, as the document has it. -/
noncomputable def expR (b : Ba) (time : Int) : List Ent := if expF b time = 0 then expL b time else []
theorem inE_same (n a z : Int) (w : World) : Calls Tryd.prog 33 #[.int .i64 n, .int .i64 a, .int .i64 z] w fun e w' => e = .returned (.bool (inR n a z)) ∧ w' = w := (in_any n a z w).mono fun _ _ h => ⟨h.1, h.2.symm⟩
set_option maxRecDepth 100000 in
set_option maxHeartbeats 4000000 in
theorem refExp_any {v : Value} {b : Ba} {time : Int} {w : World} (h : BaseAt w v b) (hst : ∀ s ∈ b.names, s.size ≤ 140737488351232) :
    Calls Tryd.prog 26 #[v, .int .i64 time] w fun e w' => Below w.heap.size w w' ∧ ∃ v, e = .returned (.tuple #[v, .int .i64 (expF b time)]) ∧ OwnEnts w.heap.size w' v (expR b time) := by
  have HMAY0 := Lib.hid fun w' (hb : Below w.heap.size w w') => baseMay_any (h.below hb) hst
  have HBO := Lib.hid fun w' (hb : Below w.heap.size w w') => book_any (h.below hb)
  obtain ⟨sa, sc, g0, l0, p0, g1, l1, p1, g2, l2, p2, rfl, hn, hnames, T0, T1, T2⟩ := h.open
  obtain ⟨W0, hW0⟩ : ∃ W0, W0 = w.alloc (.cells (baCells sa b.names.length sc g0 l0 p0 g1 l1 p1 g2 l2 p2 b) 28) := ⟨_, rfl⟩
  have hb0 : Below w.heap.size w W0 := by rw [hW0]; exact (by repeat (first | with_reducible exact Below.refl _ _ | with_reducible assumption | with_reducible refine below_dn ?_ _ | with_reducible refine Below.drew ?_ | with_reducible refine Below.alloc ?_ (by first | omega | (simp; done) | (simp; omega) | (simp [drew_size]; done) | (simp [drew_size]; omega)) _ | with_reducible refine Below.setCell ?_ (by first | omega | (simp; done) | (simp; omega) | (simp [drew_size]; done) | (simp [drew_size]; omega)) _))
  have hz0 : W0.heap.size = w.heap.size + 1 := by rw [hW0]; simp
  have k0 : W0.heap[w.heap.size]? = some (.cells (baCells sa b.names.length sc g0 l0 p0 g1 l1 p1 g2 l2 p2 b) 28) := by rw [hW0]; exact heap_new _ _ rfl
  have HX := Lib.hid fun w' (hb : Below W0.heap.size W0 w') => (by
    have b0 : w'.heap[w.heap.size]? = _ := (hb.block _ (by omega)).trans k0
    simp [World.cell?, b0] :
    w'.cell? ⟨w.heap.size, 0, none⟩ = some (.slice sa b.names.length sc) ∧ w'.cell? ⟨w.heap.size, 1, none⟩ = some (.slice g0 l0 p0) ∧ w'.cell? ⟨w.heap.size, 2, none⟩ = some (.int .i64 b.t0.root) ∧ w'.cell? ⟨w.heap.size, 3, none⟩ = some (.slice g1 l1 p1) ∧ w'.cell? ⟨w.heap.size, 4, none⟩ = some (.int .i64 b.t1.root) ∧ w'.cell? ⟨w.heap.size, 5, none⟩ = some (.slice g2 l2 p2) ∧ w'.cell? ⟨w.heap.size, 6, none⟩ = some (.int .i64 b.t2.root) ∧ w'.cell? ⟨w.heap.size, 7, none⟩ = some (.int .i64 b.floor))
  have HB := Lib.hid fun w' (hb : Below W0.heap.size W0 w') => (Below.trans' hb0 hb hb0.size : Below w.heap.size w w')
  obtain ⟨x0, x1, x2, x3, x4, x5, x6, x7⟩ := HX.out W0 (Below.refl _ _)
  have HMAY := Lib.hid (HMAY0.out W0 hb0)
  have HIN := Lib.hid fun w' => inE_same time 0 1048575 w'
  clear h hst hnames T0 T1 T2 HMAY0
  obtain ⟨F, hF⟩ : ∃ F, expF b time = F := ⟨_, rfl⟩
  rw [hF]
  by_cases hm : baseMay b = true
  · rw [hm] at HMAY
    by_cases hr : 0 ≤ time ∧ time ≤ 1048575
    · have i1 : inR time 0 1048575 = true := by simp [inR]; omega
      rw [i1] at HIN
      have m1 : time.tmod 3600 = time % 3600 := Int.tmod_eq_emod_of_nonneg hr.1
      obtain ⟨M, hM⟩ : ∃ M, time % 3600 = M := ⟨_, rfl⟩
      rw [hM] at m1
      have m2 : IntKind.i64.wrap M = M := IntWalk.i64_in _ (by omega)
      by_cases h3 : M = 0
      · have d3 : (M != 0) = false := by simp [h3]
        by_cases h4 : time < b.floor
        · have d4 : decide (time < b.floor) = true := by simp [h4]
          obtain rfl : F = 8 := by rw [← hF]; unfold expF; rw [if_neg (by simp [hm]), if_neg (by omega), if_neg (by omega), if_pos h4]
          have HR := Lib.hid (show expR b time = [] by unfold expR; rw [hF]; rfl)
          clear hF hM h3 h4 hm i1
          go_enter Tryd.func26, Tryd.ntmps26
          go_upto_region 1 with (fail)
          rw [← hW0]
          clear hW0 k0
          go_wp2_with (first | (go_at_call 10; (with_reducible refine HMAY.out.mono ?_); rintro e w1 ⟨rfl, hb1⟩; obtain ⟨y0, y1, y2, y3, y4, y5, y6, y7⟩ := HX.out _ hb1) | (go_at_call 33; (with_reducible refine (HIN.out _).mono ?_); rintro e w2 ⟨rfl, hw2⟩; obtain rfl := hw2.symm))
          go_ret2
          rw [HR.out]
          exact ⟨HB.out _ hb1, _, rfl, OwnEnts.nil _ _⟩
        · have d4 : decide (time < b.floor) = false := by simp; omega
          obtain rfl : F = 0 := by rw [← hF]; unfold expF; rw [if_neg (by simp [hm]), if_neg (by omega), if_neg (by omega), if_neg h4]
          obtain ⟨l, hl, -, hlg, -⟩ := base_knows hm
          have HR := Lib.hid (show expR b time = l.filter (young time) by unfold expR; rw [hF, if_pos rfl]; unfold expL; rw [hl])
          have HK := Lib.hid fun (e : Ent) (he : e ∈ l) => (hlg.2.1 e he).1
          have hll : l.length ≤ 50000 := hlg.2.2
          have HBK := Lib.hid fun w' (hb : Below w.heap.size w w') => (by have := HBO.out w' hb; rw [hl] at this; exact this : Calls Tryd.prog 35 #[.agg (baCells sa b.names.length sc g0 l0 p0 g1 l1 p1 g2 l2 p2 b)] w' (RolPost w'.heap.size w' (some l)))
          clear hF hM h3 h4 hm i1 hl hlg HBO
          go_enter Tryd.func26, Tryd.ntmps26
          go_upto_region 1 with (fail)
          rw [← hW0]
          clear hW0 k0
          go_upto_region 9 with (first | (go_at_call 10; (with_reducible refine HMAY.out.mono ?_); rintro e w1 ⟨rfl, hb1⟩; clear x0 x1 x2 x3 x4 x5 x6 x7; obtain ⟨x0, x1, x2, x3, x4, x5, x6, x7⟩ := HX.out _ hb1) | (go_at_call 33; (with_reducible refine (HIN.out _).mono ?_); rintro e w2 ⟨rfl, hw2⟩; obtain rfl := hw2.symm))
          go_upto_region 12 with (go_at_call 35; (with_reducible refine (HBK.out _ (HB.out _ hb1)).mono ?_); rintro e w5 ⟨hb5, v5, rfl, ho5⟩; obtain ⟨s5, c5, rfl⟩ := ho5.isSlice)
          have hbw5 : Below w.heap.size w w5 := HB.out _ (Below.trans' hb1 hb5 hb1.size)
          have HEN := Lib.hid (ho5.at (by omega))
          clear ho5 x0 x1 x2 x3 x4 x5 x6 x7
          go_loopg [8, 9] l.length (fun g out i wr => ∃ j : Nat, j ≤ l.length ∧ g = l.length - j ∧ i = .int .i64 j ∧ OwnEnts w5.heap.size wr out ((l.take j).filter (young time)) ∧ Below w5.heap.size w5 wr)
          case atStart => exact ⟨0, Nat.zero_le _, rfl, rfl, OwnEnts.nil _ _, Below.refl _ _⟩
          case round =>
            obtain ⟨j, hj, rfl, rfl, hown, hb⟩ := hrel
            have hzb := hb.size
            by_cases hlt : j < l.length
            · obtain ⟨_, _, hv, -, -, -, -, h5⟩ := HEN.out
              injection hv with hv1 hv2 hv3
              subst hv1 hv3
              clear hv2
              obtain ⟨eb, eoff, hla, heb, hec⟩ := h5 (by omega)
              subst hla
              obtain ⟨y0, y1, y2, y3, y4, y5, y6⟩ := ent_cells hb heb hec hlt
              have hk0 := HK.out _ (List.getElem_mem hlt)
              have hfj : (l.take (j + 1)).filter (young time) = (l.take j).filter (young time) ++ if young time l[j] then [l[j]] else [] := by
                rw [List.take_succ_eq_append_getElem hlt, List.filter_append]
                by_cases hy : young time l[j] = true <;> simp [hy]
              obtain ⟨y, hy⟩ : ∃ y, l[j] = y := ⟨_, rfl⟩
              rw [hy] at y0 y1 y2 y3 y4 y5 y6 hk0 hfj
              obtain ⟨N, hN⟩ : ∃ N, y.key % 1048576 = N := ⟨_, rfl⟩
              have m3 : y.key.tmod 1048576 = N := by rw [Int.tmod_eq_emod_of_nonneg hk0]; exact hN
              have m4 : IntKind.i64.wrap N = N := IntWalk.i64_in _ (by omega)
              have hyg : young time y = decide (time ≤ N) := by unfold young; rw [hN]
              have hlo : ((l.take j).filter (young time)).length ≤ 1000000 := by
                have := List.length_filter_le (young time) (l.take j)
                rw [List.length_take] at this
                omega
              have hix := fun w' => idx_ents (ab := eb) (aoff := eoff) (n := l.length) (cap := c5) (show (j : Int) = ((j : Nat) : Int) by rfl) hlt w'
              have hwz : eb < wr.heap.size := by omega
              obtain ⟨os, hos⟩ : ∃ os, (l.take j).filter (young time) = os := ⟨_, rfl⟩
              rw [hos] at hown hlo hfj
              obtain ⟨so, sc2, rfl⟩ := hown.isSlice
              by_cases hq : time ≤ N
              · have d5 : decide (time ≤ N) = true := by simp [hq]
                have HTK := Lib.hid (show (l.take (j + 1)).filter (young time) = os ++ [y] by rw [hfj, hyg, if_pos d5])
                clear hec h5 hy hN hos hq hyg hfj
                go_wp2_with ((at_builtin; refine wpList_append_ent rfl (.tmp 42) (.tmp 47) rfl w5.heap.size _ os rfl (hown.alloc _) ⟨_, 0, none⟩ y rfl (fun j u h => ent_new h) hlo (by first | omega | (simp; done) | (simp; omega) | (simp [drew_size]; done) | (simp [drew_size]; omega)) ?_; intro v4 w4 own4 hg4; have hb4 := hg4 w5.heap.size w5 (by repeat (first | with_reducible exact Below.refl _ _ | with_reducible assumption | with_reducible refine below_dn ?_ _ | with_reducible refine Below.drew ?_ | with_reducible refine Below.alloc ?_ (by first | omega | (simp; done) | (simp; omega) | (simp [drew_size]; done) | (simp [drew_size]; omega)) _ | with_reducible refine Below.setCell ?_ (by first | omega | (simp; done) | (simp; omega) | (simp [drew_size]; done) | (simp [drew_size]; omega)) _)) (Nat.le_refl _)))
                go_roundg (l.length - (j + 1))
                case measure => omega
                case rel => exact ⟨j + 1, by omega, rfl, by go_num, by rw [HTK.out]; exact own4, hb4⟩
              · have d5 : decide (time ≤ N) = false := by simp [hq]
                have HTK := Lib.hid (show (l.take (j + 1)).filter (young time) = os by rw [hfj, hyg, d5]; simp)
                clear hec h5 hy hN hos hq hyg hfj
                go_wp2
                go_roundg (l.length - (j + 1))
                case measure => omega
                case rel => exact ⟨j + 1, by omega, rfl, by go_num, by rw [HTK.out]; exact hown, hb⟩
            · have hall : l.take j = l := List.take_of_length_le (by omega)
              rw [hall] at hown
              clear hall
              go_wp2
              go_ret2
              rw [HR.out]
              exact ⟨Below.trans' hbw5 hb hbw5.size, _, rfl, hown.mono hbw5.size⟩
      · have d3 : (M != 0) = true := by simp [h3]
        obtain rfl : F = 4 := by rw [← hF]; unfold expF; rw [if_neg (by simp [hm]), if_neg (by omega), if_pos (by omega)]
        have HR := Lib.hid (show expR b time = [] by unfold expR; rw [hF]; rfl)
        clear hF hM h3 hm i1
        go_enter Tryd.func26, Tryd.ntmps26
        go_upto_region 1 with (fail)
        rw [← hW0]
        clear hW0 k0
        go_wp2_with (first | (go_at_call 10; (with_reducible refine HMAY.out.mono ?_); rintro e w1 ⟨rfl, hb1⟩) | (go_at_call 33; (with_reducible refine (HIN.out _).mono ?_); rintro e w2 ⟨rfl, hw2⟩; obtain rfl := hw2.symm))
        go_ret2
        rw [HR.out]
        exact ⟨HB.out _ hb1, _, rfl, OwnEnts.nil _ _⟩
    · have i1 : inR time 0 1048575 = false := by simp [inR]; omega
      rw [i1] at HIN
      obtain rfl : F = 2 := by rw [← hF]; unfold expF; rw [if_neg (by simp [hm]), if_pos hr]
      have HR := Lib.hid (show expR b time = [] by unfold expR; rw [hF]; rfl)
      clear hF hm i1 hr
      go_enter Tryd.func26, Tryd.ntmps26
      go_upto_region 1 with (fail)
      rw [← hW0]
      clear hW0 k0
      go_wp2_with (first | (go_at_call 10; (with_reducible refine HMAY.out.mono ?_); rintro e w1 ⟨rfl, hb1⟩) | (go_at_call 33; (with_reducible refine (HIN.out _).mono ?_); rintro e w2 ⟨rfl, hw2⟩; obtain rfl := hw2.symm))
      go_ret2
      rw [HR.out]
      exact ⟨HB.out _ hb1, _, rfl, OwnEnts.nil _ _⟩
  · have hm : baseMay b = false := by simpa using hm
    rw [hm] at HMAY
    obtain rfl : F = 7 := by rw [← hF]; unfold expF; rw [if_pos hm]
    have HR := Lib.hid (show expR b time = [] by unfold expR; rw [hF]; rfl)
    clear hF hm
    go_enter Tryd.func26, Tryd.ntmps26
    go_upto_region 1 with (fail)
    rw [← hW0]
    clear hW0 k0
    go_wp2_with (go_at_call 10; (with_reducible refine HMAY.out.mono ?_); rintro e w1 ⟨rfl, hb1⟩)
    go_ret2
    rw [HR.out]
    exact ⟨HB.out _ hb1, _, rfl, OwnEnts.nil _ _⟩
end Go.Proofs.YtijcaejdgicbmaaDoor
