/- Texts of mine that come as one: Series ProRows RefRows. -/
import Derived.Test.YtijcaejdgicbmaaDoorRG
import Derived.Test.YtijcaejdgicbmaaDoorProCheck
import Derived.Deep.RegionLaw
/- The walks of placeOf, series, seriesFault, times; of slices.Index on ints. -/
namespace Go.Proofs.YtijcaejdgicbmaaDoor
open Go.RowKit

set_option maxRecDepth 100000 in
set_option maxHeartbeats 1000000 in
theorem placeOf_any {v : Value} {xs : List ByteArray} {s : ByteArray} {w : World} (h : StrsAt w v xs) :
    Calls Tryd.prog 44 #[v, .string s] w fun e w' => e = .returned (.int .i64 (placeI xs s)) ∧ w' = w := by
  obtain ⟨ao, cap, rfl, a1, a2, a3, a4, a5⟩ := h
  go_enter Tryd.func44, Tryd.ntmps44
  go_wp2_with fail
  go_loopg [5] xs.length (fun g i wr => ∃ k : Nat, k ≤ xs.length ∧ g = xs.length - k ∧ i = .int .i64 k ∧ Hid (∀ j (hj : j < k) (hjn : j < xs.length), xs[j] ≠ s) ∧ wr = w)
  case atStart => exact ⟨0, Nat.zero_le _, rfl, rfl, Lib.hid (fun j hj => by omega), rfl⟩
  case round =>
    obtain ⟨k, hk, rfl, rfl, HN, rfl⟩ := hrel
    by_cases hlt : k < xs.length
    · obtain ⟨ab, aoff, rfl, abb, ac⟩ := a5 (by omega)
      have e0 := strs_cell (Below.refl _ _) abb ac hlt
      obtain ⟨y, hy⟩ : ∃ y, xs[k] = y := ⟨_, rfl⟩
      rw [hy] at e0
      have HY := Lib.hid hy
      have hix := fun w' => idx_str (ab := ab) (aoff := aoff) (n := xs.length) (cap := cap) (show (k : Int) = ((k : Nat) : Int) by rfl) hlt w'
      have hse := str_eq y s
      clear ac a5 hy
      by_cases hsy : y = s
      · have HP := Lib.hid (place_at hlt (HY.out.trans hsy) HN.out)
        have hsd : decide (y = s) = true := by simp [hsy]
        rw [hsd] at hse
        clear hsy hsd
        go_wp2
        go_ret
        rw [HP.out]
        exact ⟨rfl, rfl⟩
      · have HN2 := Lib.hid (show ∀ j (hj : j < k + 1) (hjn : j < xs.length), xs[j] ≠ s from fun j hj hjn => by
          by_cases hjk : j = k
          · subst hjk; rw [HY.out]; exact hsy
          · exact HN.out j (by omega) hjn)
        have hsd : decide (y = s) = false := by simp [hsy]
        rw [hsd] at hse
        clear hsy hsd
        go_wp2
        go_roundg (xs.length - (k + 1))
        case measure => omega
        case rel => exact ⟨k + 1, by omega, rfl, by go_num, HN2, rfl⟩
    · have HP := Lib.hid (place_none (xs := xs) (s := s) fun j hj => HN.out j (by omega) hj)
      go_wp2
      go_ret
      rw [HP.out]
      exact ⟨rfl, rfl⟩

/-- What base.series hands back beside its error. -/
noncomputable def seriesI (b : Ba) (s : ByteArray) : Int := if seriesE b s = 0 then placeI b.names s else 0
set_option maxRecDepth 100000 in
set_option maxHeartbeats 1000000 in
theorem series_any {v : Value} {b : Ba} {s : ByteArray} {w : World} (h : BaseAt w v b) (hst : ∀ s ∈ b.names, s.size ≤ 140737488351232) (hsz : SizesAt w) :
    Calls Tryd.prog 40 #[v, .string s] w fun e w' => e = .returned (.tuple #[.int .i64 (seriesI b s), .int .i64 (seriesE b s)]) ∧ Below w.heap.size w w' := by
  have HC := Lib.hid fun w' (hb : Below w.heap.size w w') => baseCheck_any (h.below hb) hst (hsz.below hb)
  obtain ⟨sa, sc, g0, l0, p0, g1, l1, p1, g2, l2, p2, rfl, hn, hnames, T0, T1, T2⟩ := h.open
  obtain ⟨W0, hW0⟩ : ∃ W0, W0 = w.alloc (.cells (baCells sa b.names.length sc g0 l0 p0 g1 l1 p1 g2 l2 p2 b) 28) := ⟨_, rfl⟩
  have hb0 : Below w.heap.size w W0 := by rw [hW0]; exact (by repeat (first | with_reducible exact Below.refl _ _ | with_reducible assumption | with_reducible refine below_dn ?_ _ | with_reducible refine Below.drew ?_ | with_reducible refine Below.alloc ?_ (by first | omega | (simp; done) | (simp; omega) | (simp [drew_size]; done) | (simp [drew_size]; omega)) _ | with_reducible refine Below.setCell ?_ (by first | omega | (simp; done) | (simp; omega) | (simp [drew_size]; done) | (simp [drew_size]; omega)) _))
  have hz0 : W0.heap.size = w.heap.size + 1 := by rw [hW0]; simp
  have k0 : W0.heap[w.heap.size]? = some (.cells (baCells sa b.names.length sc g0 l0 p0 g1 l1 p1 g2 l2 p2 b) 28) := by rw [hW0]; exact heap_new _ _ rfl
  have HX := Lib.hid fun w' (hb : Below W0.heap.size W0 w') => (by
    have b0 : w'.heap[w.heap.size]? = _ := (hb.block _ (by omega)).trans k0
    simp [World.cell?, b0] :
    w'.cell? ⟨w.heap.size, 0, none⟩ = some (.slice sa b.names.length sc) ∧ w'.cell? ⟨w.heap.size, 1, none⟩ = some (.slice g0 l0 p0) ∧ w'.cell? ⟨w.heap.size, 2, none⟩ = some (.int .i64 b.t0.root) ∧ w'.cell? ⟨w.heap.size, 3, none⟩ = some (.slice g1 l1 p1) ∧ w'.cell? ⟨w.heap.size, 4, none⟩ = some (.int .i64 b.t1.root) ∧ w'.cell? ⟨w.heap.size, 5, none⟩ = some (.slice g2 l2 p2) ∧ w'.cell? ⟨w.heap.size, 6, none⟩ = some (.int .i64 b.t2.root) ∧ w'.cell? ⟨w.heap.size, 7, none⟩ = some (.int .i64 b.floor))
  have HB := Lib.hid fun w' (hb : Below W0.heap.size W0 w') => (Below.trans' hb0 hb hb0.size : Below w.heap.size w w')
  obtain ⟨x0, x1, x2, x3, x4, x5, x6, x7⟩ := HX.out W0 (Below.refl _ _)
  have HIX := Lib.hid fun w' (hb : Below W0.heap.size W0 w') => indexStr_any (s := s) (hnames.below (HB.out w' hb) (Nat.le_refl _))
  clear h hst hsz hnames T0 T1 T2
  go_enter Tryd.func40, Tryd.ntmps40
  go_upto_region 1 with (fail)
  rw [← hW0]
  clear hW0 k0
  rcases seriesE_cases b s with ⟨e1, e2⟩ | ⟨e1, e2, e3⟩ | ⟨e1, e2, k, hk, e3⟩
  · have hc : checkE b = 7 := checkE_no e2
    have HI := Lib.hid (show seriesI b s = 0 by unfold seriesI; rw [if_neg (by omega)])
    have HE := Lib.hid e1
    rw [hc] at HC
    clear hc e1 e2
    go_wp2_with ((go_at_call 9; (with_reducible refine (HC.out _ hb0).mono ?_); rintro e w1 ⟨rfl, hb1⟩))
    go_ret2
    rw [HI.out, HE.out]
    exact ⟨rfl, HB.out _ hb1⟩
  · have hc : checkE b = 0 := checkE_yes e2
    have HI := Lib.hid (show seriesI b s = 0 by unfold seriesI; rw [if_neg (by omega)])
    have HE := Lib.hid e1
    rw [hc] at HC
    rw [e3] at HIX
    clear hc e1 e2 e3
    go_wp2_with (first | (go_at_call 9; (with_reducible refine (HC.out _ hb0).mono ?_); rintro e w1 ⟨rfl, hb1⟩; obtain ⟨x0, -⟩ := HX.out _ hb1) | (go_at_call 58; (with_reducible refine (HIX.out _ hb1).mono ?_); rintro e w2 ⟨rfl, hb2⟩; have hb3 := Below.trans' hb1 hb2 hb1.size))
    go_ret2
    rw [HI.out, HE.out]
    exact ⟨rfl, HB.out _ hb3⟩
  · have hc : checkE b = 0 := checkE_yes e2
    have HI := Lib.hid (show seriesI b s = k by unfold seriesI; rw [if_pos e1]; exact e3)
    have HE := Lib.hid e1
    have hk0 : decide ((k : Int) < 0) = false := by simp
    rw [hc] at HC
    rw [e3] at HIX
    clear hc e1 e2 e3
    go_wp2_with (first | (go_at_call 9; (with_reducible refine (HC.out _ hb0).mono ?_); rintro e w1 ⟨rfl, hb1⟩; obtain ⟨x0, -⟩ := HX.out _ hb1) | (go_at_call 58; (with_reducible refine (HIX.out _ hb1).mono ?_); rintro e w2 ⟨rfl, hb2⟩; have hb3 := Below.trans' hb1 hb2 hb1.size))
    go_ret2
    rw [HI.out, HE.out]
    exact ⟨rfl, HB.out _ hb3⟩

set_option maxRecDepth 100000 in
set_option maxHeartbeats 1000000 in
theorem seriesFault_any {v : Value} {b : Ba} {s : ByteArray} {w : World} (h : BaseAt w v b) (hst : ∀ s ∈ b.names, s.size ≤ 140737488351232) :
    Calls Tryd.prog 43 #[v, .string s] w fun e w' => e = .returned (.int .i64 (seriesE b s)) ∧ Below w.heap.size w w' := by
  have HC := Lib.hid fun w' (hb : Below w.heap.size w w') => baseMay_any (h.below hb) hst
  obtain ⟨sa, sc, g0, l0, p0, g1, l1, p1, g2, l2, p2, rfl, hn, hnames, T0, T1, T2⟩ := h.open
  obtain ⟨W0, hW0⟩ : ∃ W0, W0 = w.alloc (.cells (baCells sa b.names.length sc g0 l0 p0 g1 l1 p1 g2 l2 p2 b) 28) := ⟨_, rfl⟩
  have hb0 : Below w.heap.size w W0 := by rw [hW0]; exact (by repeat (first | with_reducible exact Below.refl _ _ | with_reducible assumption | with_reducible refine below_dn ?_ _ | with_reducible refine Below.drew ?_ | with_reducible refine Below.alloc ?_ (by first | omega | (simp; done) | (simp; omega) | (simp [drew_size]; done) | (simp [drew_size]; omega)) _ | with_reducible refine Below.setCell ?_ (by first | omega | (simp; done) | (simp; omega) | (simp [drew_size]; done) | (simp [drew_size]; omega)) _))
  have hz0 : W0.heap.size = w.heap.size + 1 := by rw [hW0]; simp
  have k0 : W0.heap[w.heap.size]? = some (.cells (baCells sa b.names.length sc g0 l0 p0 g1 l1 p1 g2 l2 p2 b) 28) := by rw [hW0]; exact heap_new _ _ rfl
  have HX := Lib.hid fun w' (hb : Below W0.heap.size W0 w') => (by
    have b0 : w'.heap[w.heap.size]? = _ := (hb.block _ (by omega)).trans k0
    simp [World.cell?, b0] :
    w'.cell? ⟨w.heap.size, 0, none⟩ = some (.slice sa b.names.length sc) ∧ w'.cell? ⟨w.heap.size, 1, none⟩ = some (.slice g0 l0 p0) ∧ w'.cell? ⟨w.heap.size, 2, none⟩ = some (.int .i64 b.t0.root) ∧ w'.cell? ⟨w.heap.size, 3, none⟩ = some (.slice g1 l1 p1) ∧ w'.cell? ⟨w.heap.size, 4, none⟩ = some (.int .i64 b.t1.root) ∧ w'.cell? ⟨w.heap.size, 5, none⟩ = some (.slice g2 l2 p2) ∧ w'.cell? ⟨w.heap.size, 6, none⟩ = some (.int .i64 b.t2.root) ∧ w'.cell? ⟨w.heap.size, 7, none⟩ = some (.int .i64 b.floor))
  have HB := Lib.hid fun w' (hb : Below W0.heap.size W0 w') => (Below.trans' hb0 hb hb0.size : Below w.heap.size w w')
  obtain ⟨x0, x1, x2, x3, x4, x5, x6, x7⟩ := HX.out W0 (Below.refl _ _)
  have HIX := Lib.hid fun w' (hb : Below W0.heap.size W0 w') => placeOf_any (s := s) (hnames.below (HB.out w' hb) (Nat.le_refl _))
  clear h hst hnames T0 T1 T2
  go_enter Tryd.func43, Tryd.ntmps43
  go_upto_region 1 with (fail)
  rw [← hW0]
  clear hW0 k0
  rcases seriesE_cases b s with ⟨e1, e2⟩ | ⟨e1, e2, e3⟩ | ⟨e1, e2, k, hk, e3⟩
  · have HE := Lib.hid e1
    rw [e2] at HC
    clear e1 e2
    go_wp2_with ((go_at_call 10; (with_reducible refine (HC.out _ hb0).mono ?_); rintro e w1 ⟨rfl, hb1⟩))
    go_ret
    rw [HE.out]
    exact ⟨rfl, HB.out _ hb1⟩
  · have HE := Lib.hid e1
    rw [e2] at HC
    rw [e3] at HIX
    clear e1 e2 e3
    go_wp2_with (first | (go_at_call 10; (with_reducible refine (HC.out _ hb0).mono ?_); rintro e w1 ⟨rfl, hb1⟩; obtain ⟨x0, -⟩ := HX.out _ hb1) | (go_at_call 44; (with_reducible refine (HIX.out _ hb1).mono ?_); rintro e w2 ⟨rfl, rfl⟩))
    go_ret
    rw [HE.out]
    exact ⟨rfl, HB.out _ hb1⟩
  · have HE := Lib.hid e1
    have hk0 : decide ((k : Int) < 0) = false := by simp
    rw [e2] at HC
    rw [e3] at HIX
    clear e1 e2 e3
    go_wp2_with (first | (go_at_call 10; (with_reducible refine (HC.out _ hb0).mono ?_); rintro e w1 ⟨rfl, hb1⟩; obtain ⟨x0, -⟩ := HX.out _ hb1) | (go_at_call 44; (with_reducible refine (HIX.out _ hb1).mono ?_); rintro e w2 ⟨rfl, rfl⟩))
    go_ret
    rw [HE.out]
    exact ⟨rfl, HB.out _ hb1⟩

theorem times_any (a z : Int) (w : World) : Calls Tryd.prog 42 #[.int .i64 a, .int .i64 z] w fun e w' => e = .returned (.bool (decide (rowsOk a z))) ∧ w' = w := by
  by_cases h1 : 0 ≤ a
  · have e1 : decide (0 ≤ a) = true := by simp [h1]
    by_cases h2 : z ≤ 1048575
    · have e2 : decide (z ≤ 1048575) = true := by simp [h2]
      by_cases h3 : a ≤ z
      · have e3 : decide (a ≤ z) = true := by simp [h3]
        have HR := Lib.hid (show true = decide (rowsOk a z) by simp [rowsOk, h1, h2, h3])
        clear h1 h2 h3
        go_enter Tryd.func42, Tryd.ntmps42
        go_wp2
        go_ret
        exact ⟨ret_bool HR.out, rfl⟩
      · have e3 : decide (a ≤ z) = false := by simp; omega
        have HR := Lib.hid (show false = decide (rowsOk a z) by simp [rowsOk, h3])
        clear h1 h2 h3
        go_enter Tryd.func42, Tryd.ntmps42
        go_wp2
        go_ret
        exact ⟨ret_bool HR.out, rfl⟩
    · have e2 : decide (z ≤ 1048575) = false := by simp; omega
      have HR := Lib.hid (show false = decide (rowsOk a z) by simp [rowsOk, h2])
      clear h1 h2
      go_enter Tryd.func42, Tryd.ntmps42
      go_wp2
      go_ret
      exact ⟨ret_bool HR.out, rfl⟩
  · have e1 : decide (0 ≤ a) = false := by simp; omega
    have HR := Lib.hid (show false = decide (rowsOk a z) by simp [rowsOk, h1])
    clear h1
    go_enter Tryd.func42, Tryd.ntmps42
    go_wp2
    go_ret
    exact ⟨ret_bool HR.out, rfl⟩

/-- Which size of buckets it is; -1: none. -/
def sizeI (n : Int) : Int := if n = 1 then 0 else if n = 60 then 1 else if n = 3600 then 2 else -1
theorem sizeI_cases (n : Int) : (n = 1 ∧ sizeI n = 0) ∨ (n = 60 ∧ sizeI n = 1) ∨ (n = 3600 ∧ sizeI n = 2) ∨ (n ≠ 1 ∧ n ≠ 60 ∧ n ≠ 3600 ∧ sizeI n = -1) := by
  unfold sizeI
  by_cases h1 : n = 1
  · exact .inl ⟨h1, by rw [if_pos h1]⟩
  · by_cases h2 : n = 60
    · exact .inr (.inl ⟨h2, by rw [if_neg h1, if_pos h2]⟩)
    · by_cases h3 : n = 3600
      · exact .inr (.inr (.inl ⟨h3, by rw [if_neg h1, if_neg h2, if_pos h3]⟩))
      · exact .inr (.inr (.inr ⟨h1, h2, h3, by rw [if_neg h1, if_neg h2, if_neg h3]⟩))
set_option maxRecDepth 100000 in
set_option maxHeartbeats 1000000 in
theorem indexSize_any (n : Int) {w : World} (h : SizesAt w) :
    Calls Tryd.prog 41 #[.slice (some ⟨0, 0, none⟩) 3 3, .int .i64 n] w fun e w' => e = .returned (.int .i64 (sizeI n)) ∧ w' = w := by
  obtain ⟨-, c0, c1, c2⟩ := h
  rcases sizeI_cases n with ⟨h1, h2⟩ | ⟨h1, h2⟩ | ⟨h1, h2⟩ | ⟨h1, h3, h4, h2⟩
  · rw [h2]; clear h2; subst h1
    go_enter Tryd.func41, Tryd.ntmps41
    go_wp2_with fail
    go_loopg [8] 3 (fun g i wr => i = .int .i64 0 ∧ wr = w)
    case atStart => exact ⟨rfl, rfl⟩
    case round =>
      obtain ⟨rfl, rfl⟩ := hrel
      go_wp2
      go_ret
      exact ⟨rfl, rfl⟩
  · rw [h2]; clear h2; subst h1
    go_enter Tryd.func41, Tryd.ntmps41
    go_wp2_with fail
    go_loopg [8] 3 (fun g i wr => ∃ k : Nat, k ≤ 1 ∧ g = 3 - k ∧ i = .int .i64 k ∧ wr = w)
    case atStart => exact ⟨0, by omega, rfl, rfl, rfl⟩
    case round =>
      obtain ⟨k, hk, rfl, rfl, rfl⟩ := hrel
      obtain rfl | rfl : k = 0 ∨ k = 1 := by omega
      · go_wp2
        go_roundg 2
        case measure => omega
        case rel => exact ⟨1, by omega, rfl, by go_num, rfl⟩
      · go_wp2
        go_ret
        exact ⟨rfl, rfl⟩
  · rw [h2]; clear h2; subst h1
    go_enter Tryd.func41, Tryd.ntmps41
    go_wp2_with fail
    go_loopg [8] 3 (fun g i wr => ∃ k : Nat, k ≤ 2 ∧ g = 3 - k ∧ i = .int .i64 k ∧ wr = w)
    case atStart => exact ⟨0, by omega, rfl, rfl, rfl⟩
    case round =>
      obtain ⟨k, hk, rfl, rfl, rfl⟩ := hrel
      obtain rfl | rfl | rfl : k = 0 ∨ k = 1 ∨ k = 2 := by omega
      · go_wp2
        go_roundg 2
        case measure => omega
        case rel => exact ⟨1, by omega, rfl, by go_num, rfl⟩
      · go_wp2
        go_roundg 1
        case measure => omega
        case rel => exact ⟨2, by omega, rfl, by go_num, rfl⟩
      · go_wp2
        go_ret
        exact ⟨rfl, rfl⟩
  · rw [h2]; clear h2
    have n1 : (n == 1) = false := by simpa using h1
    have n2 : (n == 60) = false := by simpa using h3
    have n3 : (n == 3600) = false := by simpa using h4
    clear h1 h3 h4
    go_enter Tryd.func41, Tryd.ntmps41
    go_wp2_with fail
    go_loopg [8] 3 (fun g i wr => ∃ k : Nat, k ≤ 3 ∧ g = 3 - k ∧ i = .int .i64 k ∧ wr = w)
    case atStart => exact ⟨0, by omega, rfl, rfl, rfl⟩
    case round =>
      obtain ⟨k, hk, rfl, rfl, rfl⟩ := hrel
      obtain rfl | rfl | rfl | rfl : k = 0 ∨ k = 1 ∨ k = 2 ∨ k = 3 := by omega
      · go_wp2
        go_roundg 2
        case measure => omega
        case rel => exact ⟨1, by omega, rfl, by go_num, rfl⟩
      · go_wp2
        go_roundg 1
        case measure => omega
        case rel => exact ⟨2, by omega, rfl, by go_num, rfl⟩
      · go_wp2
        go_roundg 0
        case measure => omega
        case rel => exact ⟨3, by omega, rfl, by go_num, rfl⟩
      · go_wp2
        go_ret
        exact ⟨rfl, rfl⟩
end Go.Proofs.YtijcaejdgicbmaaDoor

/- The walks of base.Rows and of the document's RowsOf. -/
namespace Go.Proofs.YtijcaejdgicbmaaDoor
open Go.RowKit

def RowsPost (B : Nat) (w : World) (out : List Ent) (E : Int) (e : Ending) (w' : World) : Prop := Below B w w' ∧ ∃ v, e = .returned (.tuple #[v, .int .i64 E]) ∧ OwnRows B w' v out
theorem szOf_cases {n : Int} {k : Nat} (hk : k < 3) (h : n = szOf k) : n = 1 ∨ n = 60 ∨ n = 3600 := by
  obtain rfl | rfl | rfl : k = 0 ∨ k = 1 ∨ k = 2 := by omega
  · exact .inl h
  · exact .inr (.inl h)
  · exact .inr (.inr h)
theorem sizes_cases (n : Int) : (∃ k, k < 3 ∧ n = szOf k ∧ sizeI n = k) ∨ (n ≠ 1 ∧ n ≠ 60 ∧ n ≠ 3600 ∧ sizeI n = -1) := by
  rcases sizeI_cases n with ⟨h1, h2⟩ | ⟨h1, h2⟩ | ⟨h1, h2⟩ | h
  · exact .inl ⟨0, by decide, h1, h2⟩
  · exact .inl ⟨1, by decide, h1, h2⟩
  · exact .inl ⟨2, by decide, h1, h2⟩
  · exact .inr h
theorem rowsE_series {b : Ba} {s : ByteArray} {n a z : Int} (h : seriesE b s ≠ 0) : rowsE b s n a z = seriesE b s ∧ rowsR b s n a z = [] := by
  have h1 : rowsE b s n a z = seriesE b s := by unfold rowsE; rw [if_pos h]
  exact ⟨h1, by unfold rowsR; rw [if_neg (by rw [h1]; exact h)]⟩
theorem rowsE_size {b : Ba} {s : ByteArray} {n a z : Int} (h : seriesE b s = 0) (hn : n ≠ 1 ∧ n ≠ 60 ∧ n ≠ 3600) : rowsE b s n a z = 3 ∧ rowsR b s n a z = [] := by
  have h1 : rowsE b s n a z = 3 := by unfold rowsE; rw [if_neg (not_not_intro h), if_pos hn]
  exact ⟨h1, by unfold rowsR; rw [if_neg (by rw [h1]; decide)]⟩
theorem rowsE_range {b : Ba} {s : ByteArray} {n a z : Int} {k : Nat} (h : seriesE b s = 0) (hk : k < 3) (hn : n = szOf k) (hr : ¬ rowsOk a z) : rowsE b s n a z = 2 ∧ rowsR b s n a z = [] := by
  have h0 := szOf_cases hk hn
  have h1 : rowsE b s n a z = 2 := by unfold rowsE; rw [if_neg (not_not_intro h), if_neg (by omega), if_pos hr]
  exact ⟨h1, by unfold rowsR; rw [if_neg (by rw [h1]; decide)]⟩
theorem rowsE_long {b : Ba} {s : ByteArray} {n a z : Int} {k : Nat} (h : seriesE b s = 0) (hk : k < 3) (hn : n = szOf k) (hr : rowsOk a z) (hl : 500 < (rowsL b s n a z).length) : rowsE b s n a z = 1 ∧ rowsR b s n a z = [] := by
  have h0 := szOf_cases hk hn
  have h1 : rowsE b s n a z = 1 := by unfold rowsE; rw [if_neg (not_not_intro h), if_neg (by omega), if_neg (not_not_intro hr), if_pos hl]
  exact ⟨h1, by unfold rowsR; rw [if_neg (by rw [h1]; decide)]⟩
theorem rowsE_ok {b : Ba} {s : ByteArray} {n a z : Int} {k : Nat} (h : seriesE b s = 0) (hk : k < 3) (hn : n = szOf k) (hr : rowsOk a z) (hl : ¬ 500 < (rowsL b s n a z).length) : rowsE b s n a z = 0 ∧ rowsR b s n a z = rowsL b s n a z := by
  have h0 := szOf_cases hk hn
  have h1 : rowsE b s n a z = 0 := by unfold rowsE; rw [if_neg (not_not_intro h), if_neg (by omega), if_neg (not_not_intro hr), if_neg hl]
  exact ⟨h1, by unfold rowsR; rw [if_pos h1]⟩

set_option maxRecDepth 100000 in
set_option maxHeartbeats 4000000 in
theorem rows_any {v : Value} {b : Ba} {s : ByteArray} {n a z : Int} {w : World} (h : BaseAt w v b) (hst : ∀ s ∈ b.names, s.size ≤ 140737488351232) (hsz : SizesAt w) :
    Calls Tryd.prog 11 #[v, .string s, .int .i64 n, .int .i64 a, .int .i64 z] w (RowsPost w.heap.size w (rowsR b s n a z) (rowsE b s n a z)) := by
  have HSE := Lib.hid fun w' (hb : Below w.heap.size w w') => series_any (s := s) (h.below hb) hst (hsz.below hb)
  obtain ⟨sa, sc, g0, l0, p0, g1, l1, p1, g2, l2, p2, rfl, hn, hnames, T0, T1, T2⟩ := h.open
  obtain ⟨W0, hW0⟩ : ∃ W0, W0 = w.alloc (.cells (baCells sa b.names.length sc g0 l0 p0 g1 l1 p1 g2 l2 p2 b) 28) := ⟨_, rfl⟩
  have hb0 : Below w.heap.size w W0 := by rw [hW0]; exact (by repeat (first | with_reducible exact Below.refl _ _ | with_reducible assumption | with_reducible refine below_dn ?_ _ | with_reducible refine Below.drew ?_ | with_reducible refine Below.alloc ?_ (by first | omega | (simp; done) | (simp; omega) | (simp [drew_size]; done) | (simp [drew_size]; omega)) _ | with_reducible refine Below.setCell ?_ (by first | omega | (simp; done) | (simp; omega) | (simp [drew_size]; done) | (simp [drew_size]; omega)) _))
  have hz0 : W0.heap.size = w.heap.size + 1 := by rw [hW0]; simp
  have k0 : W0.heap[w.heap.size]? = some (.cells (baCells sa b.names.length sc g0 l0 p0 g1 l1 p1 g2 l2 p2 b) 28) := by rw [hW0]; exact heap_new _ _ rfl
  have HX := Lib.hid fun w' (hb : Below W0.heap.size W0 w') => (by
    have b0 : w'.heap[w.heap.size]? = _ := (hb.block _ (by omega)).trans k0
    simp [World.cell?, b0] :
    w'.cell? ⟨w.heap.size, 0, none⟩ = some (.slice sa b.names.length sc) ∧ w'.cell? ⟨w.heap.size, 1, none⟩ = some (.slice g0 l0 p0) ∧ w'.cell? ⟨w.heap.size, 2, none⟩ = some (.int .i64 b.t0.root) ∧ w'.cell? ⟨w.heap.size, 3, none⟩ = some (.slice g1 l1 p1) ∧ w'.cell? ⟨w.heap.size, 4, none⟩ = some (.int .i64 b.t1.root) ∧ w'.cell? ⟨w.heap.size, 5, none⟩ = some (.slice g2 l2 p2) ∧ w'.cell? ⟨w.heap.size, 6, none⟩ = some (.int .i64 b.t2.root) ∧ w'.cell? ⟨w.heap.size, 7, none⟩ = some (.int .i64 b.floor))
  have HB := Lib.hid fun w' (hb : Below W0.heap.size W0 w') => (Below.trans' hb0 hb hb0.size : Below w.heap.size w w')
  obtain ⟨x0, x1, x2, x3, x4, x5, x6, x7⟩ := HX.out W0 (Below.refl _ _)
  have HSZ := Lib.hid fun w' (hb : Below W0.heap.size W0 w') => (hsz.below (HB.out w' hb) : SizesAt w')
  have HSI := Lib.hid fun w' (hb : Below W0.heap.size W0 w') => indexSize_any n (HSZ.out w' hb)
  have HT0 := Lib.hid fun w' lo hi (hb : Below W0.heap.size W0 w') => all_any (lo := lo) (hi := hi) (T0 w' (HB.out w' hb))
  have HT1 := Lib.hid fun w' lo hi (hb : Below W0.heap.size W0 w') => all_any (lo := lo) (hi := hi) (T1 w' (HB.out w' hb))
  have HT2 := Lib.hid fun w' lo hi (hb : Below W0.heap.size W0 w') => all_any (lo := lo) (hi := hi) (T2 w' (HB.out w' hb))
  clear h hst hsz hnames T0 T1 T2
  go_enter Tryd.func11, Tryd.ntmps11
  go_upto_region 1 with (fail)
  rw [← hW0]
  clear hW0 k0
  rcases seriesE_cases b s with ⟨e1, e2⟩ | ⟨e1, e2, e3⟩ | ⟨e1, e2, p, hp, e3⟩
  · obtain ⟨r1, r2⟩ := rowsE_series (n := n) (a := a) (z := z) (show seriesE b s ≠ 0 by omega)
    have HR := Lib.hid (And.intro (r1.trans e1) r2)
    rw [e1] at HSE
    clear e1 e2 r1 r2
    go_wp2_with ((go_at_call 40; (with_reducible refine (HSE.out _ hb0).mono ?_); rintro e w1 ⟨rfl, hb1⟩))
    go_ret2
    rw [HR.out.1, HR.out.2]
    exact ⟨HB.out _ hb1, _, rfl, OwnRows.nil _ _⟩
  · obtain ⟨r1, r2⟩ := rowsE_series (n := n) (a := a) (z := z) (show seriesE b s ≠ 0 by omega)
    have HR := Lib.hid (And.intro (r1.trans e1) r2)
    rw [e1] at HSE
    clear e1 e2 e3 r1 r2
    go_wp2_with ((go_at_call 40; (with_reducible refine (HSE.out _ hb0).mono ?_); rintro e w1 ⟨rfl, hb1⟩))
    go_ret2
    rw [HR.out.1, HR.out.2]
    exact ⟨HB.out _ hb1, _, rfl, OwnRows.nil _ _⟩
  · have hI : seriesI b s = p := by unfold seriesI; rw [if_pos e1]; exact e3
    rw [e1, hI] at HSE
    clear hI
    go_upto_region 4 with ((go_at_call 40; (with_reducible refine (HSE.out _ hb0).mono ?_); rintro e w1 ⟨rfl, hb1⟩; obtain ⟨x0, x1, x2, x3, x4, x5, x6, x7⟩ := HX.out _ hb1))
    have hbw1 := HB.out _ hb1
    rcases sizes_cases n with ⟨k, hk, hn3, hi⟩ | ⟨n1, n2, n3, hi⟩
    · rw [hi] at HSI
      have hkd : decide ((k : Int) < 0) = false := by simp
      have HT := Lib.hid (times_any a z)
      by_cases hr : rowsOk a z
      · have htd : decide (rowsOk a z) = true := by simp [hr]
        rw [htd] at HT
        obtain ⟨m, q1, q2, q3, q4, q5⟩ := rows_filter (s := s) e2 hk hr
        rw [e3] at q1 q3
        rw [← hn3] at q1
        obtain ⟨hr1, hr2, hr3⟩ := id hr
        obtain ⟨lo, hlo⟩ : ∃ lo, (p : Int) * 1048576 + a = lo := ⟨_, rfl⟩
        obtain ⟨hi', hhi⟩ : ∃ hi', (p : Int) * 1048576 + z + 1 = hi' := ⟨_, rfl⟩
        rw [hlo, hhi] at q1 q3
        have m1 : IntKind.i64.wrap ((p : Int) * 1048576) = (p : Int) * 1048576 := IntWalk.i64_in _ (by omega)
        have m2 : IntKind.i64.wrap ((p : Int) * 1048576 + a) = lo := by rw [hlo]; exact IntWalk.i64_in _ (by omega)
        have m3 : IntKind.i64.wrap ((p : Int) * 1048576 + z) = (p : Int) * 1048576 + z := IntWalk.i64_in _ (by omega)
        have m4 : IntKind.i64.wrap ((p : Int) * 1048576 + z + 1) = hi' := by rw [hhi]; exact IntWalk.i64_in _ (by omega)
        obtain ⟨ms, hms⟩ : ∃ ms, m.filter (inRange lo hi') = ms := ⟨_, rfl⟩
        have hmk : ∀ y ∈ ms, 0 ≤ y.key ∧ y.key < 1099511627776 := fun y hy => by rw [← hms] at hy; exact q5.2.1 y (List.mem_filter.1 hy).1
        have hml : ms.length ≤ 50000 := by rw [← hms]; exact Nat.le_trans (List.length_filter_le _ _) q5.2.2
        rw [hms] at q1 q3
        have HL := Lib.hid q1
        have HMK := Lib.hid hmk
        have HSER := Lib.hid e1
        have HN3 := Lib.hid hn3
        have HRO := Lib.hid hr
        have HQ2 := Lib.hid q2
        have HQ3 := Lib.hid q3
        have hk0 : (0 : Int) ≤ (k : Int) := by omega
        have hk3 : (k : Int) < 3 := by omega
        clear q1 q2 q3 q4 q5 hms hlo hhi hr htd hr1 hr2 hr3 e1 e2 e3 hmk hn3 hi HSE
        go_upto_region 9 with (first | (go_at_call 41; (with_reducible refine (HSI.out _ hb1).mono ?_); rintro e w2 ⟨rfl, hw2⟩; obtain rfl := hw2.symm) | (go_at_call 42; (with_reducible refine (HT.out _).mono ?_); rintro e w2 ⟨rfl, hw2⟩; obtain rfl := hw2.symm))
        go_cut [15, 13] (fun u c wx => ∃ su sd, u = .slice su ms.length sd ∧ c = .int .i64 0 ∧ OwnEnts w1.heap.size wx (.slice su ms.length sd) ms ∧ Below w1.heap.size w1 wx)
        case first =>
          obtain rfl | rfl | rfl : k = 0 ∨ k = 1 ∨ k = 2 := by omega
          · have HA := Lib.hid (HT0.out w1 lo hi' hb1)
            go_wp2_with ((go_at_call 31; (with_reducible refine HA.out.mono ?_); rintro e w3 ⟨hb3, -, hok⟩; have hok := hok HQ2.out; rw [show allR b.t0 lo hi' = some ms from HQ3.out] at hok; obtain ⟨v3, rfl, ho3⟩ := hok; obtain ⟨su, sd, rfl⟩ := ho3.isSlice))
            go_meet
            exact ⟨_, _, rfl, rfl, ho3, hb3⟩
          · have HA := Lib.hid (HT1.out w1 lo hi' hb1)
            go_wp2_with ((go_at_call 31; (with_reducible refine HA.out.mono ?_); rintro e w3 ⟨hb3, -, hok⟩; have hok := hok HQ2.out; rw [show allR b.t1 lo hi' = some ms from HQ3.out] at hok; obtain ⟨v3, rfl, ho3⟩ := hok; obtain ⟨su, sd, rfl⟩ := ho3.isSlice))
            go_meet
            exact ⟨_, _, rfl, rfl, ho3, hb3⟩
          · have HA := Lib.hid (HT2.out w1 lo hi' hb1)
            go_wp2_with ((go_at_call 31; (with_reducible refine HA.out.mono ?_); rintro e w3 ⟨hb3, -, hok⟩; have hok := hok HQ2.out; rw [show allR b.t2 lo hi' = some ms from HQ3.out] at hok; obtain ⟨v3, rfl, ho3⟩ := hok; obtain ⟨su, sd, rfl⟩ := ho3.isSlice))
            go_meet
            exact ⟨_, _, rfl, rfl, ho3, hb3⟩
        case rest =>
          obtain ⟨su, sd, rfl, rfl, ho3, hb3⟩ := hcut
          rename World => w3
          have hbw3 : Below w.heap.size w w3 := Below.trans' hbw1 hb3 hbw1.size
          clear x0 x1 x2 x3 x4 x5 x6 x7 m1 m2 m3 m4 HSI HT
          by_cases hl : 500 < ms.length
          · have hld : decide ((500 : Int) < (ms.length : Int)) = true := by simp; omega
            have HR := Lib.hid (rowsE_long HSER.out hk HN3.out HRO.out (by rw [HL.out, List.length_map]; exact hl))
            clear hl
            go_wp2
            go_ret2
            rw [HR.out.1, HR.out.2]
            exact ⟨hbw3, _, rfl, OwnRows.nil _ _⟩
          · have hld : decide ((500 : Int) < (ms.length : Int)) = false := by simp; omega
            have HR := Lib.hid (rowsE_ok HSER.out hk HN3.out HRO.out (by rw [HL.out, List.length_map]; exact hl))
            clear hl
            have HEN := Lib.hid (ho3.at (by omega))
            clear ho3
            go_wp2_with fail
            clear hld
            go_loopg [16, 62] ms.length (fun g out i wr => ∃ j : Nat, j ≤ ms.length ∧ g = ms.length - j ∧ i = .int .i64 j ∧ OwnRows w3.heap.size wr out ((ms.take j).map rowOf) ∧ Below w3.heap.size w3 wr)
            case atStart => exact ⟨0, Nat.zero_le _, rfl, rfl, OwnRows.nil _ _, Below.refl _ _⟩
            case round =>
              obtain ⟨j, hj, rfl, rfl, hown, hb⟩ := hrel
              have hzb := hb.size
              have hbw := Below.trans' hbw3 hb hbw3.size
              by_cases hlt : j < ms.length
              · obtain ⟨_, _, hv, -, -, -, -, h5⟩ := HEN.out
                injection hv with hv1 _ hv3
                subst hv1 hv3
                obtain ⟨eb, eoff, hla, heb, hec⟩ := h5 (by omega)
                subst hla
                obtain ⟨y0, y1, y2, y3, y4, y5, y6⟩ := ent_cells hb heb hec hlt
                obtain ⟨y, hy⟩ : ∃ y, ms[j] = y := ⟨_, rfl⟩
                rw [hy] at y0 y1 y2 y3 y4 y5 y6
                obtain ⟨hk0, hk1⟩ := HMK.out y (by rw [← hy]; exact List.getElem_mem hlt)
                obtain ⟨M, hM⟩ : ∃ M, y.key % 1048576 = M := ⟨_, rfl⟩
                have HTK := Lib.hid (show (ms.take (j + 1)).map rowOf = (ms.take j).map rowOf ++ [⟨M, y.is⟩] by rw [List.take_succ_eq_append_getElem hlt, List.map_append, hy]; simp [rowOf, hM])
                have m1 : y.key.tmod 1048576 = M := by rw [Int.tmod_eq_emod_of_nonneg hk0]; exact hM
                have m4 : IntKind.i64.wrap M = M := IntWalk.i64_in _ (by omega)
                have hlo : ((ms.take j).map rowOf).length ≤ 1000000 := by rw [List.length_map, List.length_take]; omega
                have hix := fun w' => idx_ents (ab := eb) (aoff := eoff) (n := ms.length) (cap := sd) (show (j : Int) = ((j : Nat) : Int) by rfl) hlt w'
                have hwz : eb < wr.heap.size := by omega
                obtain ⟨os, hos⟩ : ∃ os, (ms.take j).map rowOf = os := ⟨_, rfl⟩
                rw [hos] at hown HTK hlo
                obtain ⟨so, sc2, rfl⟩ := hown.isSlice
                obtain ⟨W1, hW1⟩ : ∃ W1, W1 = wr.alloc (.cells #[.int .i64 y.key, .int .i64 y.is.c, .int .i64 y.is.s, .int .i64 y.is.mi, .int .i64 y.is.ma, .int .i64 y.is.t, .int .i64 y.is.l] 70) := ⟨_, rfl⟩
                have hb1 : Below wr.heap.size wr W1 := by rw [hW1]; exact (by repeat (first | with_reducible exact Below.refl _ _ | with_reducible assumption | with_reducible refine below_dn ?_ _ | with_reducible refine Below.drew ?_ | with_reducible refine Below.alloc ?_ (by first | omega | (simp; done) | (simp; omega) | (simp [drew_size]; done) | (simp [drew_size]; omega)) _ | with_reducible refine Below.setCell ?_ (by first | omega | (simp; done) | (simp; omega) | (simp [drew_size]; done) | (simp [drew_size]; omega)) _))
                have k1 : W1.heap[wr.heap.size]? = some (.cells #[.int .i64 y.key, .int .i64 y.is.c, .int .i64 y.is.s, .int .i64 y.is.mi, .int .i64 y.is.ma, .int .i64 y.is.t, .int .i64 y.is.l] 70) := by rw [hW1]; exact heap_new _ _ rfl
                have hbn : Below w3.heap.size w3 W1 := Below.trans' hb hb1 hzb
                have hzn := hbn.size
                obtain ⟨q0, q1, q2, q3, q4, q5, q6⟩ : W1.cell? ⟨wr.heap.size, 0, none⟩ = some (.int .i64 y.key) ∧ W1.cell? ⟨wr.heap.size, 1, none⟩ = some (.int .i64 y.is.c) ∧ W1.cell? ⟨wr.heap.size, 2, none⟩ = some (.int .i64 y.is.s) ∧ W1.cell? ⟨wr.heap.size, 3, none⟩ = some (.int .i64 y.is.mi) ∧ W1.cell? ⟨wr.heap.size, 4, none⟩ = some (.int .i64 y.is.ma) ∧ W1.cell? ⟨wr.heap.size, 5, none⟩ = some (.int .i64 y.is.t) ∧ W1.cell? ⟨wr.heap.size, 6, none⟩ = some (.int .i64 y.is.l) := by simp [World.cell?, k1]
                have hown1 : OwnRows w3.heap.size W1 (.slice so os.length sc2) os := hown.below hb1 (Nat.le_refl _)
                clear hec h5 hy hM hos
                go_upto_region 18 with (fail)
                rw [← hW1]
                clear hW1 k1 hown y0 y1 y2 y3 y4 y5 y6
                go_wp2_with ((at_builtin; refine wpList_append_row rfl (.tmp 66) (.tmp 73) rfl w3.heap.size _ os rfl (by repeat (first | assumption | with_reducible refine OwnRows.alloc ?_ _ | with_reducible refine OwnRows.drewN ?_ _ | with_reducible refine OwnRows.drew ?_)) ⟨_, 0, none⟩ ⟨M, y.is⟩ rfl (fun j u h => ent_new h) hlo (by first | omega | (simp; done) | (simp; omega) | (simp [drew_size]; done) | (simp [drew_size]; omega)) ?_; intro v4 w4 own4 hg4; have hb4 := hg4 w3.heap.size w3 (by repeat (first | with_reducible exact Below.refl _ _ | with_reducible assumption | with_reducible refine below_dn ?_ _ | with_reducible refine Below.drew ?_ | with_reducible refine Below.alloc ?_ (by first | omega | (simp; done) | (simp; omega) | (simp [drew_size]; done) | (simp [drew_size]; omega)) _ | with_reducible refine Below.setCell ?_ (by first | omega | (simp; done) | (simp; omega) | (simp [drew_size]; done) | (simp [drew_size]; omega)) _)) (Nat.le_refl _)))
                go_roundg (ms.length - (j + 1))
                case measure => omega
                case rel => exact ⟨j + 1, by omega, rfl, by go_num, by rw [HTK.out]; exact own4, hb4⟩
              · have hall : ms.take j = ms := List.take_of_length_le (by omega)
                rw [hall] at hown
                clear hall
                go_wp2
                go_ret2
                rw [HR.out.1, HR.out.2, HL.out]
                exact ⟨hbw, _, rfl, hown.mono hbw3.size⟩
      · have htd : decide (rowsOk a z) = false := by simp [hr]
        rw [htd] at HT
        have HR := Lib.hid (rowsE_range (s := s) e1 hk hn3 hr)
        clear e1 e2 e3 hr htd hn3
        go_wp2_with (first | (go_at_call 41; (with_reducible refine (HSI.out _ hb1).mono ?_); rintro e w2 ⟨rfl, hw2⟩; obtain rfl := hw2.symm) | (go_at_call 42; (with_reducible refine (HT.out _).mono ?_); rintro e w2 ⟨rfl, hw2⟩; obtain rfl := hw2.symm))
        go_ret2
        rw [HR.out.1, HR.out.2]
        exact ⟨hbw1, _, rfl, OwnRows.nil _ _⟩
    · have HR := Lib.hid (rowsE_size (a := a) (z := z) e1 ⟨n1, n2, n3⟩)
      rw [hi] at HSI
      clear e1 e2 e3 n1 n2 n3 hi
      go_wp2_with ((go_at_call 41; (with_reducible refine (HSI.out _ hb1).mono ?_); rintro e w2 ⟨rfl, hw2⟩; obtain rfl := hw2.symm))
      go_ret2
      rw [HR.out.1, HR.out.2]
      exact ⟨hbw1, _, rfl, OwnRows.nil _ _⟩
end Go.Proofs.YtijcaejdgicbmaaDoor

/- The walk of the document's RowsOf. -/
namespace Go.Proofs.YtijcaejdgicbmaaDoor
open Go.RowKit

theorem rowsL_eq {b : Ba} {s : ByteArray} {n a z : Int} {l m : List Ent} (h1 : bookR b = some l) (h2 : rolledR l n = some m) : rowsL b s n a z = (m.filter (inRow (placeI b.names s) a z)).map rowOf := by
  unfold rowsL; rw [h1]; simp only; rw [h2]
theorem in_same (n a z : Int) (w : World) : Calls Tryd.prog 33 #[.int .i64 n, .int .i64 a, .int .i64 z] w fun e w' => e = .returned (.bool (inR n a z)) ∧ w' = w := (in_any n a z w).mono fun _ _ h => ⟨h.1, h.2.symm⟩
theorem filter_step {m : List Ent} {f : Ent → Bool} {j : Nat} (hj : j < m.length) : (m.take (j + 1)).filter f = (m.take j).filter f ++ (if f m[j] = true then [m[j]] else []) := by
  rw [List.take_succ_eq_append_getElem hj, List.filter_append]
  congr 1
  by_cases h : f m[j] = true
  · rw [if_pos h, List.filter_cons_of_pos h, List.filter_nil]
  · rw [if_neg h, List.filter_cons_of_neg h, List.filter_nil]

set_option maxRecDepth 100000 in
set_option maxHeartbeats 4000000 in
theorem refRows_any {v : Value} {b : Ba} {s : ByteArray} {n a z : Int} {w : World} (h : BaseAt w v b) (hst : ∀ s ∈ b.names, s.size ≤ 140737488351232) :
    Calls Tryd.prog 12 #[v, .string s, .int .i64 n, .int .i64 a, .int .i64 z] w (RowsPost w.heap.size w (rowsR b s n a z) (rowsE b s n a z)) := by
  have HSE := Lib.hid fun w' (hb : Below w.heap.size w w') => seriesFault_any (s := s) (h.below hb) hst
  have HBO := Lib.hid fun w' (hb : Below w.heap.size w w') => book_any (h.below hb)
  obtain ⟨sa, sc, g0, l0, p0, g1, l1, p1, g2, l2, p2, rfl, hn, hnames, T0, T1, T2⟩ := h.open
  obtain ⟨W0, hW0⟩ : ∃ W0, W0 = w.alloc (.cells (baCells sa b.names.length sc g0 l0 p0 g1 l1 p1 g2 l2 p2 b) 28) := ⟨_, rfl⟩
  have hb0 : Below w.heap.size w W0 := by rw [hW0]; exact (by repeat (first | with_reducible exact Below.refl _ _ | with_reducible assumption | with_reducible refine below_dn ?_ _ | with_reducible refine Below.drew ?_ | with_reducible refine Below.alloc ?_ (by first | omega | (simp; done) | (simp; omega) | (simp [drew_size]; done) | (simp [drew_size]; omega)) _ | with_reducible refine Below.setCell ?_ (by first | omega | (simp; done) | (simp; omega) | (simp [drew_size]; done) | (simp [drew_size]; omega)) _))
  have hz0 : W0.heap.size = w.heap.size + 1 := by rw [hW0]; simp
  have k0 : W0.heap[w.heap.size]? = some (.cells (baCells sa b.names.length sc g0 l0 p0 g1 l1 p1 g2 l2 p2 b) 28) := by rw [hW0]; exact heap_new _ _ rfl
  have HX := Lib.hid fun w' (hb : Below W0.heap.size W0 w') => (by
    have b0 : w'.heap[w.heap.size]? = _ := (hb.block _ (by omega)).trans k0
    simp [World.cell?, b0] :
    w'.cell? ⟨w.heap.size, 0, none⟩ = some (.slice sa b.names.length sc) ∧ w'.cell? ⟨w.heap.size, 1, none⟩ = some (.slice g0 l0 p0) ∧ w'.cell? ⟨w.heap.size, 2, none⟩ = some (.int .i64 b.t0.root) ∧ w'.cell? ⟨w.heap.size, 3, none⟩ = some (.slice g1 l1 p1) ∧ w'.cell? ⟨w.heap.size, 4, none⟩ = some (.int .i64 b.t1.root) ∧ w'.cell? ⟨w.heap.size, 5, none⟩ = some (.slice g2 l2 p2) ∧ w'.cell? ⟨w.heap.size, 6, none⟩ = some (.int .i64 b.t2.root) ∧ w'.cell? ⟨w.heap.size, 7, none⟩ = some (.int .i64 b.floor))
  have HB := Lib.hid fun w' (hb : Below W0.heap.size W0 w') => (Below.trans' hb0 hb hb0.size : Below w.heap.size w w')
  obtain ⟨x0, x1, x2, x3, x4, x5, x6, x7⟩ := HX.out W0 (Below.refl _ _)
  have HPL := Lib.hid fun w' (hb : Below W0.heap.size W0 w') => placeOf_any (s := s) (hnames.below (HB.out w' hb) (Nat.le_refl _))
  clear h hst hnames T0 T1 T2
  go_enter Tryd.func12, Tryd.ntmps12
  go_upto_region 1 with (fail)
  rw [← hW0]
  clear hW0 k0
  rcases seriesE_cases b s with ⟨e1, e2⟩ | ⟨e1, e2, e3⟩ | ⟨e1, e2, p, hp, e3⟩
  · obtain ⟨r1, r2⟩ := rowsE_series (n := n) (a := a) (z := z) (show seriesE b s ≠ 0 by omega)
    have HR := Lib.hid (And.intro (r1.trans e1) r2)
    rw [e1] at HSE
    clear e1 e2 r1 r2
    go_wp2_with ((go_at_call 43; (with_reducible refine (HSE.out _ hb0).mono ?_); rintro e w1 ⟨rfl, hb1⟩))
    go_ret2
    rw [HR.out.1, HR.out.2]
    exact ⟨HB.out _ hb1, _, rfl, OwnRows.nil _ _⟩
  · obtain ⟨r1, r2⟩ := rowsE_series (n := n) (a := a) (z := z) (show seriesE b s ≠ 0 by omega)
    have HR := Lib.hid (And.intro (r1.trans e1) r2)
    rw [e1] at HSE
    clear e1 e2 e3 r1 r2
    go_wp2_with ((go_at_call 43; (with_reducible refine (HSE.out _ hb0).mono ?_); rintro e w1 ⟨rfl, hb1⟩))
    go_ret2
    rw [HR.out.1, HR.out.2]
    exact ⟨HB.out _ hb1, _, rfl, OwnRows.nil _ _⟩
  · rw [e1] at HSE
    go_upto_region 2 with ((go_at_call 43; (with_reducible refine (HSE.out _ hb0).mono ?_); rintro e w1 ⟨rfl, hb1⟩; obtain ⟨x0, x1, x2, x3, x4, x5, x6, x7⟩ := HX.out _ hb1))
    have hbw1 := HB.out _ hb1
    rcases sizes_cases n with ⟨k, hk, hn3, hi⟩ | ⟨n1, n2, n3, hi⟩
    · have HSER := Lib.hid e1
      have HIN := fun w' => in_same a 0 z w'
      by_cases hr : rowsOk a z
      · obtain ⟨hr1, hr2, hr3⟩ := id hr
        have i1 : inR a 0 z = true := by simp [inR]; omega
        have i2 : decide ((1048575 : Int) < z) = false := by simp; omega
        rw [i1] at HIN
        have HI := Lib.hid HIN
        obtain ⟨l, hl, hlr, hlg, hlt⟩ := base_knows e2
        obtain ⟨m, q1, q2⟩ := hlt k hk
        rw [← hn3] at q1
        have HL := Lib.hid (show rowsL b s n a z = (m.filter (inRow p a z)).map rowOf by rw [rowsL_eq hl q1, e3])
        have HMG := Lib.hid (allT_good q2)
        have hml : m.length ≤ 50000 := (allT_good q2).2.2.2
        have HBO1 := Lib.hid (HBO.out w1 hbw1)
        rw [hl] at HBO1
        have HLG := Lib.hid hlg
        have hll : l.length ≤ 50000 := hlg.2.2
        have HROL := Lib.hid fun w' v (h : EntsAt w' v l) => rolled_any (size := n) h HLG.out (by have := szOf_cases hk hn3; omega) (by have := szOf_cases hk hn3; omega)
        rw [q1] at HROL
        have HN3 := Lib.hid hn3
        have HRO := Lib.hid hr
        rw [e3] at HPL
        clear hl hlr hlg hlt q1 q2 i1 HIN hr hr1 hr2 hr3 e1 e2 e3 hi HSE HBO hn3
        go_cut [12, 33] (fun c t wx => c = .int .i64 0 ∧ t = .bool false ∧ wx = w1)
        case first =>
          have h3 := szOf_cases hk HN3.out
          clear HN3 HL HROL HRO
          rcases h3 with rfl | rfl | rfl
          all_goals
            go_wp2
            go_meet
            exact ⟨rfl, rfl, rfl⟩
        case rest =>
          obtain ⟨rfl, rfl, hwc⟩ := hcut
          obtain rfl := hwc.symm
          go_upto_region 9 with (first | (go_at_call 33; (with_reducible refine (HI.out _).mono ?_); rintro e w2 ⟨rfl, hw2⟩; obtain rfl := hw2.symm) | (go_at_call 35; (with_reducible refine HBO1.out.mono ?_); rintro e w5 ⟨hb5, v5, rfl, ho5⟩; have hb5' := Below.trans' hb1 hb5 hb1.size; obtain ⟨s5, c5, rfl⟩ := ho5.isSlice; have HRW := Lib.hid (HROL.out w5 _ (ho5.at (by omega)))))
          clear x0 x1 x2 x3 x4 x5 x6 x7
          go_upto_region 12 with ((go_at_call 36; (with_reducible refine HRW.out.mono ?_); rintro e w6 ⟨hb6, v6, rfl, ho6⟩; have hb6' := Below.trans' hb5' hb6 hb5'.size; obtain ⟨s6, c6, rfl⟩ := ho6.isSlice))
          have HEN := Lib.hid (ho6.at (by omega))
          have hbw6 := HB.out _ hb6'
          clear ho6
          go_loopg [15, 16] m.length (fun g out i wr => ∃ j : Nat, j ≤ m.length ∧ g = m.length - j ∧ i = .int .i64 j ∧ OwnRows w6.heap.size wr out (((m.take j).filter (inRow p a z)).map rowOf) ∧ Below w6.heap.size w6 wr)
          case atStart => exact ⟨0, Nat.zero_le _, rfl, rfl, OwnRows.nil _ _, Below.refl _ _⟩
          case round =>
            obtain ⟨j, hj, rfl, rfl, hown, hb⟩ := hrel
            have hzb := hb.size
            have hbw := Below.trans' hbw6 hb hbw6.size
            have hbW0 := Below.trans' hb6' hb hb6'.size
            obtain ⟨x0, -⟩ := HX.out _ hbW0
            by_cases hlt : j < m.length
            · obtain ⟨_, _, hv, -, -, -, -, h5⟩ := HEN.out
              injection hv with hv1 _ hv3
              subst hv1 hv3
              obtain ⟨eb, eoff, hla, heb, hec⟩ := h5 (by omega)
              subst hla
              obtain ⟨y0, y1, y2, y3, y4, y5, y6⟩ := ent_cells hb heb hec hlt
              obtain ⟨y, hy⟩ : ∃ y, m[j] = y := ⟨_, rfl⟩
              rw [hy] at y0 y1 y2 y3 y4 y5 y6
              obtain ⟨hk0, hk1⟩ := HMG.out.2.2.1 y (by rw [← hy]; exact List.getElem_mem hlt)
              have HSTP := Lib.hid (filter_step (f := inRow p a z) hlt)
              rw [hy] at HSTP
              obtain ⟨M, hM⟩ : ∃ M, y.key % 1048576 = M := ⟨_, rfl⟩
              obtain ⟨Q, hQ⟩ : ∃ Q, y.key / 1048576 = Q := ⟨_, rfl⟩
              have hinr : inRow p a z y = (decide (Q = p) && inR M a z) := by simp [inRow, hM, hQ]
              have m1 : y.key.tmod 1048576 = M := by rw [Int.tmod_eq_emod_of_nonneg hk0]; exact hM
              have m2 : y.key.tdiv 1048576 = Q := by rw [Int.tdiv_eq_ediv_of_nonneg hk0]; exact hQ
              have m4 : IntKind.i64.wrap M = M := IntWalk.i64_in _ (by omega)
              have m5 : IntKind.i64.wrap Q = Q := IntWalk.i64_in _ (by omega)
              have hlo : (((m.take j).filter (inRow p a z)).map rowOf).length ≤ 1000000 := by
                rw [List.length_map]
                have := List.length_filter_le (inRow p a z) (m.take j)
                rw [List.length_take] at this
                omega
              have hix := fun w' => idx_ents (ab := eb) (aoff := eoff) (n := m.length) (cap := c6) (show (j : Int) = ((j : Nat) : Int) by rfl) hlt w'
              have hwz : eb < wr.heap.size := by omega
              obtain ⟨os, hos⟩ : ∃ os, ((m.take j).filter (inRow p a z)).map rowOf = os := ⟨_, rfl⟩
              rw [hos] at hown hlo
              obtain ⟨so, sc2, rfl⟩ := hown.isSlice
              have HIM := fun w' => in_same M a z w'
              by_cases hq : Q = p
              · have e1 : (Q == (p : Int)) = true := by simp [hq]
                by_cases hm : inR M a z = true
                · have HTK := Lib.hid (show ((m.take (j + 1)).filter (inRow p a z)).map rowOf = os ++ [⟨M, y.is⟩] by rw [HSTP.out, if_pos (by rw [hinr]; simp [hq, hm]), List.map_append, hos]; simp [rowOf, hM])
                  rw [hm] at HIM
                  have HIMh := Lib.hid HIM
                  clear hec h5 hy hM hQ hos hq hm hinr HIM
                  go_upto_region 14 with (fail)
                  go_quiet (first | (go_at_call 44; refine Calls.quiet_of_same (HPL.out _ ?_); exact (by repeat (first | with_reducible exact Below.refl _ _ | with_reducible assumption | with_reducible refine below_dn ?_ _ | with_reducible refine Below.drew ?_ | with_reducible refine Below.alloc ?_ (by first | omega | (simp; done) | (simp; omega) | (simp [drew_size]; done) | (simp [drew_size]; omega)) _ | with_reducible refine Below.setCell ?_ (by first | omega | (simp; done) | (simp; omega) | (simp [drew_size]; done) | (simp [drew_size]; omega)) _))) | (go_at_call 33; exact Calls.quiet_of_same (HIMh.out _)))
                  go_upto_region 15 with (fail)
                  generalize hW2 : wr.drewN _ = W2
                  have hown2 : OwnRows w6.heap.size W2 (.slice so os.length sc2) os := by rw [← hW2]; exact hown.drewN _
                  have hb2 : Below w6.heap.size w6 W2 := by rw [← hW2]; exact (by repeat (first | with_reducible exact Below.refl _ _ | with_reducible assumption | with_reducible refine below_dn ?_ _ | with_reducible refine Below.drew ?_ | with_reducible refine Below.alloc ?_ (by first | omega | (simp; done) | (simp; omega) | (simp [drew_size]; done) | (simp [drew_size]; omega)) _ | with_reducible refine Below.setCell ?_ (by first | omega | (simp; done) | (simp; omega) | (simp [drew_size]; done) | (simp [drew_size]; omega)) _))
                  have hz2 := hb2.size
                  have z0 : W2.cell? ⟨eb, eoff + j * 7, none⟩ = some (.int .i64 y.key) := by rw [← hW2]; exact y0
                  have z1 : W2.cell? ⟨eb, eoff + j * 7 + 1, none⟩ = some (.int .i64 y.is.c) := by rw [← hW2]; exact y1
                  have z2 : W2.cell? ⟨eb, eoff + j * 7 + 2, none⟩ = some (.int .i64 y.is.s) := by rw [← hW2]; exact y2
                  have z3 : W2.cell? ⟨eb, eoff + j * 7 + 3, none⟩ = some (.int .i64 y.is.mi) := by rw [← hW2]; exact y3
                  have z4 : W2.cell? ⟨eb, eoff + j * 7 + 4, none⟩ = some (.int .i64 y.is.ma) := by rw [← hW2]; exact y4
                  have z5 : W2.cell? ⟨eb, eoff + j * 7 + 5, none⟩ = some (.int .i64 y.is.t) := by rw [← hW2]; exact y5
                  have z6 : W2.cell? ⟨eb, eoff + j * 7 + 6, none⟩ = some (.int .i64 y.is.l) := by rw [← hW2]; exact y6
                  clear hW2 hown y0 y1 y2 y3 y4 y5 y6 x0 e1
                  go_region_law (refine step_append_row rfl (.tmp 88) (.tmp 101) rfl w6.heap.size _ os rfl (by repeat (first | assumption | with_reducible refine OwnRows.alloc ?_ _ | with_reducible refine OwnRows.drewN ?_ _ | with_reducible refine OwnRows.drew ?_)) ⟨_, 0, none⟩ ⟨M, y.is⟩ rfl (fun j u h => ent_new h) hlo (by first | omega | (simp; done) | (simp; omega) | (simp [drew_size]; done) | (simp [drew_size]; omega)) ?_; intro v4 w4 own4 hg4; have hb4 := hg4 w6.heap.size w6 (by repeat (first | with_reducible exact Below.refl _ _ | with_reducible assumption | with_reducible refine below_dn ?_ _ | with_reducible refine Below.drew ?_ | with_reducible refine Below.alloc ?_ (by first | omega | (simp; done) | (simp; omega) | (simp [drew_size]; done) | (simp [drew_size]; omega)) _ | with_reducible refine Below.setCell ?_ (by first | omega | (simp; done) | (simp; omega) | (simp [drew_size]; done) | (simp [drew_size]; omega)) _)) (Nat.le_refl _))
                  all_goals
                    go_wp2
                    go_roundg (m.length - (j + 1))
                    case measure => omega
                    case rel => exact ⟨j + 1, by omega, rfl, by go_num, by rw [HTK.out]; exact own4, hb4⟩
                · have hm : inR M a z = false := by simpa using hm
                  have HTK := Lib.hid (show ((m.take (j + 1)).filter (inRow p a z)).map rowOf = os by rw [HSTP.out, if_neg (by rw [hinr]; simp [hm]), List.append_nil, hos])
                  rw [hm] at HIM
                  have HIMh := Lib.hid HIM
                  clear hec h5 hy hM hQ hos hq hm hinr HIM
                  go_upto_region 14 with (fail)
                  go_quiet (first | (go_at_call 44; refine Calls.quiet_of_same (HPL.out _ ?_); exact (by repeat (first | with_reducible exact Below.refl _ _ | with_reducible assumption | with_reducible refine below_dn ?_ _ | with_reducible refine Below.drew ?_ | with_reducible refine Below.alloc ?_ (by first | omega | (simp; done) | (simp; omega) | (simp [drew_size]; done) | (simp [drew_size]; omega)) _ | with_reducible refine Below.setCell ?_ (by first | omega | (simp; done) | (simp; omega) | (simp [drew_size]; done) | (simp [drew_size]; omega)) _))) | (go_at_call 33; exact Calls.quiet_of_same (HIMh.out _)))
                  go_wp2
                  go_roundg (m.length - (j + 1))
                  case measure => omega
                  case rel => exact ⟨j + 1, by omega, rfl, by go_num, by rw [HTK.out]; exact (by repeat (first | assumption | with_reducible refine OwnRows.alloc ?_ _ | with_reducible refine OwnRows.drewN ?_ _ | with_reducible refine OwnRows.drew ?_)), (by repeat (first | with_reducible exact Below.refl _ _ | with_reducible assumption | with_reducible refine below_dn ?_ _ | with_reducible refine Below.drew ?_ | with_reducible refine Below.alloc ?_ (by first | omega | (simp; done) | (simp; omega) | (simp [drew_size]; done) | (simp [drew_size]; omega)) _ | with_reducible refine Below.setCell ?_ (by first | omega | (simp; done) | (simp; omega) | (simp [drew_size]; done) | (simp [drew_size]; omega)) _))⟩
              · have e1 : (Q == (p : Int)) = false := by simp [hq]
                have HTK := Lib.hid (show ((m.take (j + 1)).filter (inRow p a z)).map rowOf = os by rw [HSTP.out, if_neg (by rw [hinr]; simp [hq]), List.append_nil, hos])
                clear hec h5 hy hM hQ hos hq hinr HIM
                go_upto_region 14 with (fail)
                go_quiet (first | (go_at_call 44; refine Calls.quiet_of_same (HPL.out _ ?_); exact (by repeat (first | with_reducible exact Below.refl _ _ | with_reducible assumption | with_reducible refine below_dn ?_ _ | with_reducible refine Below.drew ?_ | with_reducible refine Below.alloc ?_ (by first | omega | (simp; done) | (simp; omega) | (simp [drew_size]; done) | (simp [drew_size]; omega)) _ | with_reducible refine Below.setCell ?_ (by first | omega | (simp; done) | (simp; omega) | (simp [drew_size]; done) | (simp [drew_size]; omega)) _))) | fail)
                go_wp2
                go_roundg (m.length - (j + 1))
                case measure => omega
                case rel => exact ⟨j + 1, by omega, rfl, by go_num, by rw [HTK.out]; exact (by repeat (first | assumption | with_reducible refine OwnRows.alloc ?_ _ | with_reducible refine OwnRows.drewN ?_ _ | with_reducible refine OwnRows.drew ?_)), (by repeat (first | with_reducible exact Below.refl _ _ | with_reducible assumption | with_reducible refine below_dn ?_ _ | with_reducible refine Below.drew ?_ | with_reducible refine Below.alloc ?_ (by first | omega | (simp; done) | (simp; omega) | (simp [drew_size]; done) | (simp [drew_size]; omega)) _ | with_reducible refine Below.setCell ?_ (by first | omega | (simp; done) | (simp; omega) | (simp [drew_size]; done) | (simp [drew_size]; omega)) _))⟩
            · have hall : m.take j = m := List.take_of_length_le (by omega)
              rw [hall] at hown
              obtain ⟨os, hos⟩ : ∃ os, (m.filter (inRow p a z)).map rowOf = os := ⟨_, rfl⟩
              have HOS := Lib.hid (HL.out.trans hos)
              rw [hos] at hown
              obtain ⟨so, sc2, rfl⟩ := hown.isSlice
              clear hall hos
              by_cases hl : 500 < os.length
              · have hld : decide ((500 : Int) < (os.length : Int)) = true := by simp; omega
                have HR := Lib.hid (rowsE_long HSER.out hk HN3.out HRO.out (by rw [HOS.out]; exact hl))
                clear hl
                go_wp2
                go_ret2
                rw [HR.out.1, HR.out.2]
                exact ⟨hbw, _, rfl, OwnRows.nil _ _⟩
              · have hld : decide ((500 : Int) < (os.length : Int)) = false := by simp; omega
                have HR := Lib.hid (rowsE_ok HSER.out hk HN3.out HRO.out (by rw [HOS.out]; exact hl))
                clear hl
                go_wp2
                go_ret2
                rw [HR.out.1, HR.out.2, HOS.out]
                exact ⟨hbw, _, rfl, hown.mono hbw6.size⟩
      · have HR := Lib.hid (rowsE_range (s := s) e1 hk hn3 hr)
        have h3 := szOf_cases hk hn3
        by_cases i1 : inR a 0 z = true
        · have i2 : decide ((1048575 : Int) < z) = true := by
            have : 0 ≤ a ∧ a ≤ z := by simpa [inR] using i1
            simp; exact Int.not_le.1 fun h => hr ⟨this.1, this.2, h⟩
          rw [i1] at HIN
          have HI := Lib.hid HIN
          clear e1 e2 e3 hr hn3 i1 HIN
          rcases h3 with rfl | rfl | rfl
          all_goals
            go_wp2_with ((go_at_call 33; (with_reducible refine (HI.out _).mono ?_); rintro e w2 ⟨rfl, hw2⟩; obtain rfl := hw2.symm))
            go_ret2
            rw [HR.out.1, HR.out.2]
            exact ⟨hbw1, _, rfl, OwnRows.nil _ _⟩
        · have i1 : inR a 0 z = false := by simpa using i1
          rw [i1] at HIN
          have HI := Lib.hid HIN
          clear e1 e2 e3 hr hn3 i1 HIN
          rcases h3 with rfl | rfl | rfl
          all_goals
            go_wp2_with ((go_at_call 33; (with_reducible refine (HI.out _).mono ?_); rintro e w2 ⟨rfl, hw2⟩; obtain rfl := hw2.symm))
            go_ret2
            rw [HR.out.1, HR.out.2]
            exact ⟨hbw1, _, rfl, OwnRows.nil _ _⟩
    · have HR := Lib.hid (rowsE_size (a := a) (z := z) e1 ⟨n1, n2, n3⟩)
      have g1 : (n != 1) = true := by simpa using n1
      have g2 : (n != 60) = true := by simpa using n2
      have g3 : (n != 3600) = true := by simpa using n3
      clear e1 e2 e3 n1 n2 n3 hi
      go_wp2
      go_ret2
      rw [HR.out.1, HR.out.2]
      exact ⟨hbw1, _, rfl, OwnRows.nil _ _⟩
end Go.Proofs.YtijcaejdgicbmaaDoor
