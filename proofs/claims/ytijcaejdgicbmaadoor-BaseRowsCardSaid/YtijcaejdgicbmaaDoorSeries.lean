/- The walks of placeOf, series, seriesFault, times; of slices.Index on ints. -/
import Derived.Test.YtijcaejdgicbmaaDoorRG
import Derived.Test.YtijcaejdgicbmaaDoorProCheck
namespace Go.Proofs.YtijcaejdgicbmaaDoor
open Go.RowKit

set_option maxRecDepth 100000 in
set_option maxHeartbeats 1000000 in
theorem placeOf_any {v : Value} {xs : List ByteArray} {s : ByteArray} {w : World} (h : StrsAt w v xs) :
    Calls Tryd.prog 44 #[v, .string s] w fun e w' => e = .returned (.int .i64 (placeI xs s)) ∧ w' = w := by
  obtain ⟨ao, cap, rfl, a1, a2, a3, a4, a5⟩ := h
  go_enter Tryd.func44, Tryd.ntmps44
  go_wp2_with fail
  go_loopg [5] xs.length (fun g i wr => ∃ k : Nat, k ≤ xs.length ∧ g = xs.length - k ∧ i = .int .i64 k ∧ Hid (∀ j (hj : j < k) (hjn : j < xs.length), xs[j] ≠ s) ∧ wr = w)
  case atStart => exact ⟨0, Nat.zero_le _, rfl, rfl, Lib.hid (fun j hj => by omega), rfl⟩
  case round =>
    obtain ⟨k, hk, rfl, rfl, HN, rfl⟩ := hrel
    by_cases hlt : k < xs.length
    · obtain ⟨ab, aoff, rfl, abb, ac⟩ := a5 (by omega)
      have e0 := strs_cell (Below.refl _ _) abb ac hlt
      obtain ⟨y, hy⟩ : ∃ y, xs[k] = y := ⟨_, rfl⟩
      rw [hy] at e0
      have HY := Lib.hid hy
      have hix := fun w' => idx_str (ab := ab) (aoff := aoff) (n := xs.length) (cap := cap) (show (k : Int) = ((k : Nat) : Int) by rfl) hlt w'
      have hse := str_eq y s
      clear ac a5 hy
      by_cases hsy : y = s
      · have HP := Lib.hid (place_at hlt (HY.out.trans hsy) HN.out)
        have hsd : decide (y = s) = true := by simp [hsy]
        rw [hsd] at hse
        clear hsy hsd
        go_wp2
        go_ret
        rw [HP.out]
        exact ⟨rfl, rfl⟩
      · have HN2 := Lib.hid (show ∀ j (hj : j < k + 1) (hjn : j < xs.length), xs[j] ≠ s from fun j hj hjn => by
          by_cases hjk : j = k
          · subst hjk; rw [HY.out]; exact hsy
          · exact HN.out j (by omega) hjn)
        have hsd : decide (y = s) = false := by simp [hsy]
        rw [hsd] at hse
        clear hsy hsd
        go_wp2
        go_roundg (xs.length - (k + 1))
        case measure => omega
        case rel => exact ⟨k + 1, by omega, rfl, by go_num, HN2, rfl⟩
    · have HP := Lib.hid (place_none (xs := xs) (s := s) fun j hj => HN.out j (by omega) hj)
      go_wp2
      go_ret
      rw [HP.out]
      exact ⟨rfl, rfl⟩

/-- What base.series hands back beside its error. -/
noncomputable def seriesI (b : Ba) (s : ByteArray) : Int := if seriesE b s = 0 then placeI b.names s else 0
set_option maxRecDepth 100000 in
set_option maxHeartbeats 1000000 in
theorem series_any {v : Value} {b : Ba} {s : ByteArray} {w : World} (h : BaseAt w v b) (hst : ∀ s ∈ b.names, s.size ≤ 140737488351232) (hsz : SizesAt w) :
    Calls Tryd.prog 40 #[v, .string s] w fun e w' => e = .returned (.tuple #[.int .i64 (seriesI b s), .int .i64 (seriesE b s)]) ∧ Below w.heap.size w w' := by
  have HC := Lib.hid fun w' (hb : Below w.heap.size w w') => baseCheck_any (h.below hb) hst (hsz.below hb)
  obtain ⟨sa, sc, g0, l0, p0, g1, l1, p1, g2, l2, p2, rfl, hn, hnames, T0, T1, T2⟩ := h.open
  obtain ⟨W0, hW0⟩ : ∃ W0, W0 = w.alloc (.cells (baCells sa b.names.length sc g0 l0 p0 g1 l1 p1 g2 l2 p2 b) 28) := ⟨_, rfl⟩
  have hb0 : Below w.heap.size w W0 := by rw [hW0]; exact (by repeat (first | with_reducible exact Below.refl _ _ | with_reducible assumption | with_reducible refine below_dn ?_ _ | with_reducible refine Below.drew ?_ | with_reducible refine Below.alloc ?_ (by first | omega | (simp; done) | (simp; omega) | (simp [drew_size]; done) | (simp [drew_size]; omega)) _ | with_reducible refine Below.setCell ?_ (by first | omega | (simp; done) | (simp; omega) | (simp [drew_size]; done) | (simp [drew_size]; omega)) _))
  have hz0 : W0.heap.size = w.heap.size + 1 := by rw [hW0]; simp
  have k0 : W0.heap[w.heap.size]? = some (.cells (baCells sa b.names.length sc g0 l0 p0 g1 l1 p1 g2 l2 p2 b) 28) := by rw [hW0]; exact heap_new _ _ rfl
  have HX := Lib.hid fun w' (hb : Below W0.heap.size W0 w') => (by
    have b0 : w'.heap[w.heap.size]? = _ := (hb.block _ (by omega)).trans k0
    simp [World.cell?, b0] :
    w'.cell? ⟨w.heap.size, 0, none⟩ = some (.slice sa b.names.length sc) ∧ w'.cell? ⟨w.heap.size, 1, none⟩ = some (.slice g0 l0 p0) ∧ w'.cell? ⟨w.heap.size, 2, none⟩ = some (.int .i64 b.t0.root) ∧ w'.cell? ⟨w.heap.size, 3, none⟩ = some (.slice g1 l1 p1) ∧ w'.cell? ⟨w.heap.size, 4, none⟩ = some (.int .i64 b.t1.root) ∧ w'.cell? ⟨w.heap.size, 5, none⟩ = some (.slice g2 l2 p2) ∧ w'.cell? ⟨w.heap.size, 6, none⟩ = some (.int .i64 b.t2.root) ∧ w'.cell? ⟨w.heap.size, 7, none⟩ = some (.int .i64 b.floor))
  have HB := Lib.hid fun w' (hb : Below W0.heap.size W0 w') => (Below.trans' hb0 hb hb0.size : Below w.heap.size w w')
  obtain ⟨x0, x1, x2, x3, x4, x5, x6, x7⟩ := HX.out W0 (Below.refl _ _)
  have HIX := Lib.hid fun w' (hb : Below W0.heap.size W0 w') => indexStr_any (s := s) (hnames.below (HB.out w' hb) (Nat.le_refl _))
  clear h hst hsz hnames T0 T1 T2
  go_enter Tryd.func40, Tryd.ntmps40
  go_upto_region 1 with (fail)
  rw [← hW0]
  clear hW0 k0
  rcases seriesE_cases b s with ⟨e1, e2⟩ | ⟨e1, e2, e3⟩ | ⟨e1, e2, k, hk, e3⟩
  · have hc : checkE b = 7 := checkE_no e2
    have HI := Lib.hid (show seriesI b s = 0 by unfold seriesI; rw [if_neg (by omega)])
    have HE := Lib.hid e1
    rw [hc] at HC
    clear hc e1 e2
    go_wp2_with ((go_at_call 9; (with_reducible refine (HC.out _ hb0).mono ?_); rintro e w1 ⟨rfl, hb1⟩))
    go_ret2
    rw [HI.out, HE.out]
    exact ⟨rfl, HB.out _ hb1⟩
  · have hc : checkE b = 0 := checkE_yes e2
    have HI := Lib.hid (show seriesI b s = 0 by unfold seriesI; rw [if_neg (by omega)])
    have HE := Lib.hid e1
    rw [hc] at HC
    rw [e3] at HIX
    clear hc e1 e2 e3
    go_wp2_with (first | (go_at_call 9; (with_reducible refine (HC.out _ hb0).mono ?_); rintro e w1 ⟨rfl, hb1⟩; obtain ⟨x0, -⟩ := HX.out _ hb1) | (go_at_call 58; (with_reducible refine (HIX.out _ hb1).mono ?_); rintro e w2 ⟨rfl, hb2⟩; have hb3 := Below.trans' hb1 hb2 hb1.size))
    go_ret2
    rw [HI.out, HE.out]
    exact ⟨rfl, HB.out _ hb3⟩
  · have hc : checkE b = 0 := checkE_yes e2
    have HI := Lib.hid (show seriesI b s = k by unfold seriesI; rw [if_pos e1]; exact e3)
    have HE := Lib.hid e1
    have hk0 : decide ((k : Int) < 0) = false := by simp
    rw [hc] at HC
    rw [e3] at HIX
    clear hc e1 e2 e3
    go_wp2_with (first | (go_at_call 9; (with_reducible refine (HC.out _ hb0).mono ?_); rintro e w1 ⟨rfl, hb1⟩; obtain ⟨x0, -⟩ := HX.out _ hb1) | (go_at_call 58; (with_reducible refine (HIX.out _ hb1).mono ?_); rintro e w2 ⟨rfl, hb2⟩; have hb3 := Below.trans' hb1 hb2 hb1.size))
    go_ret2
    rw [HI.out, HE.out]
    exact ⟨rfl, HB.out _ hb3⟩

set_option maxRecDepth 100000 in
set_option maxHeartbeats 1000000 in
theorem seriesFault_any {v : Value} {b : Ba} {s : ByteArray} {w : World} (h : BaseAt w v b) (hst : ∀ s ∈ b.names, s.size ≤ 140737488351232) :
    Calls Tryd.prog 43 #[v, .string s] w fun e w' => e = .returned (.int .i64 (seriesE b s)) ∧ Below w.heap.size w w' := by
  have HC := Lib.hid fun w' (hb : Below w.heap.size w w') => baseMay_any (h.below hb) hst
  obtain ⟨sa, sc, g0, l0, p0, g1, l1, p1, g2, l2, p2, rfl, hn, hnames, T0, T1, T2⟩ := h.open
  obtain ⟨W0, hW0⟩ : ∃ W0, W0 = w.alloc (.cells (baCells sa b.names.length sc g0 l0 p0 g1 l1 p1 g2 l2 p2 b) 28) := ⟨_, rfl⟩
  have hb0 : Below w.heap.size w W0 := by rw [hW0]; exact (by repeat (first | with_reducible exact Below.refl _ _ | with_reducible assumption | with_reducible refine below_dn ?_ _ | with_reducible refine Below.drew ?_ | with_reducible refine Below.alloc ?_ (by first | omega | (simp; done) | (simp; omega) | (simp [drew_size]; done) | (simp [drew_size]; omega)) _ | with_reducible refine Below.setCell ?_ (by first | omega | (simp; done) | (simp; omega) | (simp [drew_size]; done) | (simp [drew_size]; omega)) _))
  have hz0 : W0.heap.size = w.heap.size + 1 := by rw [hW0]; simp
  have k0 : W0.heap[w.heap.size]? = some (.cells (baCells sa b.names.length sc g0 l0 p0 g1 l1 p1 g2 l2 p2 b) 28) := by rw [hW0]; exact heap_new _ _ rfl
  have HX := Lib.hid fun w' (hb : Below W0.heap.size W0 w') => (by
    have b0 : w'.heap[w.heap.size]? = _ := (hb.block _ (by omega)).trans k0
    simp [World.cell?, b0] :
    w'.cell? ⟨w.heap.size, 0, none⟩ = some (.slice sa b.names.length sc) ∧ w'.cell? ⟨w.heap.size, 1, none⟩ = some (.slice g0 l0 p0) ∧ w'.cell? ⟨w.heap.size, 2, none⟩ = some (.int .i64 b.t0.root) ∧ w'.cell? ⟨w.heap.size, 3, none⟩ = some (.slice g1 l1 p1) ∧ w'.cell? ⟨w.heap.size, 4, none⟩ = some (.int .i64 b.t1.root) ∧ w'.cell? ⟨w.heap.size, 5, none⟩ = some (.slice g2 l2 p2) ∧ w'.cell? ⟨w.heap.size, 6, none⟩ = some (.int .i64 b.t2.root) ∧ w'.cell? ⟨w.heap.size, 7, none⟩ = some (.int .i64 b.floor))
  have HB := Lib.hid fun w' (hb : Below W0.heap.size W0 w') => (Below.trans' hb0 hb hb0.size : Below w.heap.size w w')
  obtain ⟨x0, x1, x2, x3, x4, x5, x6, x7⟩ := HX.out W0 (Below.refl _ _)
  have HIX := Lib.hid fun w' (hb : Below W0.heap.size W0 w') => placeOf_any (s := s) (hnames.below (HB.out w' hb) (Nat.le_refl _))
  clear h hst hnames T0 T1 T2
  go_enter Tryd.func43, Tryd.ntmps43
  go_upto_region 1 with (fail)
  rw [← hW0]
  clear hW0 k0
  rcases seriesE_cases b s with ⟨e1, e2⟩ | ⟨e1, e2, e3⟩ | ⟨e1, e2, k, hk, e3⟩
  · have HE := Lib.hid e1
    rw [e2] at HC
    clear e1 e2
    go_wp2_with ((go_at_call 10; (with_reducible refine (HC.out _ hb0).mono ?_); rintro e w1 ⟨rfl, hb1⟩))
    go_ret
    rw [HE.out]
    exact ⟨rfl, HB.out _ hb1⟩
  · have HE := Lib.hid e1
    rw [e2] at HC
    rw [e3] at HIX
    clear e1 e2 e3
    go_wp2_with (first | (go_at_call 10; (with_reducible refine (HC.out _ hb0).mono ?_); rintro e w1 ⟨rfl, hb1⟩; obtain ⟨x0, -⟩ := HX.out _ hb1) | (go_at_call 44; (with_reducible refine (HIX.out _ hb1).mono ?_); rintro e w2 ⟨rfl, rfl⟩))
    go_ret
    rw [HE.out]
    exact ⟨rfl, HB.out _ hb1⟩
  · have HE := Lib.hid e1
    have hk0 : decide ((k : Int) < 0) = false := by simp
    rw [e2] at HC
    rw [e3] at HIX
    clear e1 e2 e3
    go_wp2_with (first | (go_at_call 10; (with_reducible refine (HC.out _ hb0).mono ?_); rintro e w1 ⟨rfl, hb1⟩; obtain ⟨x0, -⟩ := HX.out _ hb1) | (go_at_call 44; (with_reducible refine (HIX.out _ hb1).mono ?_); rintro e w2 ⟨rfl, rfl⟩))
    go_ret
    rw [HE.out]
    exact ⟨rfl, HB.out _ hb1⟩

theorem times_any (a z : Int) (w : World) : Calls Tryd.prog 42 #[.int .i64 a, .int .i64 z] w fun e w' => e = .returned (.bool (decide (rowsOk a z))) ∧ w' = w := by
  by_cases h1 : 0 ≤ a
  · have e1 : decide (0 ≤ a) = true := by simp [h1]
    by_cases h2 : z ≤ 1048575
    · have e2 : decide (z ≤ 1048575) = true := by simp [h2]
      by_cases h3 : a ≤ z
      · have e3 : decide (a ≤ z) = true := by simp [h3]
        have HR := Lib.hid (show true = decide (rowsOk a z) by simp [rowsOk, h1, h2, h3])
        clear h1 h2 h3
        go_enter Tryd.func42, Tryd.ntmps42
        go_wp2
        go_ret
        exact ⟨ret_bool HR.out, rfl⟩
      · have e3 : decide (a ≤ z) = false := by simp; omega
        have HR := Lib.hid (show false = decide (rowsOk a z) by simp [rowsOk, h3])
        clear h1 h2 h3
        go_enter Tryd.func42, Tryd.ntmps42
        go_wp2
        go_ret
        exact ⟨ret_bool HR.out, rfl⟩
    · have e2 : decide (z ≤ 1048575) = false := by simp; omega
      have HR := Lib.hid (show false = decide (rowsOk a z) by simp [rowsOk, h2])
      clear h1 h2
      go_enter Tryd.func42, Tryd.ntmps42
      go_wp2
      go_ret
      exact ⟨ret_bool HR.out, rfl⟩
  · have e1 : decide (0 ≤ a) = false := by simp; omega
    have HR := Lib.hid (show false = decide (rowsOk a z) by simp [rowsOk, h1])
    clear h1
    go_enter Tryd.func42, Tryd.ntmps42
    go_wp2
    go_ret
    exact ⟨ret_bool HR.out, rfl⟩

/-- Which size of buckets it is; -1: none. -/
def sizeI (n : Int) : Int := if n = 1 then 0 else if n = 60 then 1 else if n = 3600 then 2 else -1
theorem sizeI_cases (n : Int) : (n = 1 ∧ sizeI n = 0) ∨ (n = 60 ∧ sizeI n = 1) ∨ (n = 3600 ∧ sizeI n = 2) ∨ (n ≠ 1 ∧ n ≠ 60 ∧ n ≠ 3600 ∧ sizeI n = -1) := by
  unfold sizeI
  by_cases h1 : n = 1
  · exact .inl ⟨h1, by rw [if_pos h1]⟩
  · by_cases h2 : n = 60
    · exact .inr (.inl ⟨h2, by rw [if_neg h1, if_pos h2]⟩)
    · by_cases h3 : n = 3600
      · exact .inr (.inr (.inl ⟨h3, by rw [if_neg h1, if_neg h2, if_pos h3]⟩))
      · exact .inr (.inr (.inr ⟨h1, h2, h3, by rw [if_neg h1, if_neg h2, if_neg h3]⟩))
set_option maxRecDepth 100000 in
set_option maxHeartbeats 1000000 in
theorem indexSize_any (n : Int) {w : World} (h : SizesAt w) :
    Calls Tryd.prog 41 #[.slice (some ⟨0, 0, none⟩) 3 3, .int .i64 n] w fun e w' => e = .returned (.int .i64 (sizeI n)) ∧ w' = w := by
  obtain ⟨-, c0, c1, c2⟩ := h
  rcases sizeI_cases n with ⟨h1, h2⟩ | ⟨h1, h2⟩ | ⟨h1, h2⟩ | ⟨h1, h3, h4, h2⟩
  · rw [h2]; clear h2; subst h1
    go_enter Tryd.func41, Tryd.ntmps41
    go_wp2_with fail
    go_loopg [8] 3 (fun g i wr => i = .int .i64 0 ∧ wr = w)
    case atStart => exact ⟨rfl, rfl⟩
    case round =>
      obtain ⟨rfl, rfl⟩ := hrel
      go_wp2
      go_ret
      exact ⟨rfl, rfl⟩
  · rw [h2]; clear h2; subst h1
    go_enter Tryd.func41, Tryd.ntmps41
    go_wp2_with fail
    go_loopg [8] 3 (fun g i wr => ∃ k : Nat, k ≤ 1 ∧ g = 3 - k ∧ i = .int .i64 k ∧ wr = w)
    case atStart => exact ⟨0, by omega, rfl, rfl, rfl⟩
    case round =>
      obtain ⟨k, hk, rfl, rfl, rfl⟩ := hrel
      obtain rfl | rfl : k = 0 ∨ k = 1 := by omega
      · go_wp2
        go_roundg 2
        case measure => omega
        case rel => exact ⟨1, by omega, rfl, by go_num, rfl⟩
      · go_wp2
        go_ret
        exact ⟨rfl, rfl⟩
  · rw [h2]; clear h2; subst h1
    go_enter Tryd.func41, Tryd.ntmps41
    go_wp2_with fail
    go_loopg [8] 3 (fun g i wr => ∃ k : Nat, k ≤ 2 ∧ g = 3 - k ∧ i = .int .i64 k ∧ wr = w)
    case atStart => exact ⟨0, by omega, rfl, rfl, rfl⟩
    case round =>
      obtain ⟨k, hk, rfl, rfl, rfl⟩ := hrel
      obtain rfl | rfl | rfl : k = 0 ∨ k = 1 ∨ k = 2 := by omega
      · go_wp2
        go_roundg 2
        case measure => omega
        case rel => exact ⟨1, by omega, rfl, by go_num, rfl⟩
      · go_wp2
        go_roundg 1
        case measure => omega
        case rel => exact ⟨2, by omega, rfl, by go_num, rfl⟩
      · go_wp2
        go_ret
        exact ⟨rfl, rfl⟩
  · rw [h2]; clear h2
    have n1 : (n == 1) = false := by simpa using h1
    have n2 : (n == 60) = false := by simpa using h3
    have n3 : (n == 3600) = false := by simpa using h4
    clear h1 h3 h4
    go_enter Tryd.func41, Tryd.ntmps41
    go_wp2_with fail
    go_loopg [8] 3 (fun g i wr => ∃ k : Nat, k ≤ 3 ∧ g = 3 - k ∧ i = .int .i64 k ∧ wr = w)
    case atStart => exact ⟨0, by omega, rfl, rfl, rfl⟩
    case round =>
      obtain ⟨k, hk, rfl, rfl, rfl⟩ := hrel
      obtain rfl | rfl | rfl | rfl : k = 0 ∨ k = 1 ∨ k = 2 ∨ k = 3 := by omega
      · go_wp2
        go_roundg 2
        case measure => omega
        case rel => exact ⟨1, by omega, rfl, by go_num, rfl⟩
      · go_wp2
        go_roundg 1
        case measure => omega
        case rel => exact ⟨2, by omega, rfl, by go_num, rfl⟩
      · go_wp2
        go_roundg 0
        case measure => omega
        case rel => exact ⟨3, by omega, rfl, by go_num, rfl⟩
      · go_wp2
        go_ret
        exact ⟨rfl, rfl⟩
end Go.Proofs.YtijcaejdgicbmaaDoor
