/- Texts of mine that come as one: Series ProRows. -/
import Derived.Test.YtalnnghnipoogaaDoorRG
import Derived.Test.YtalnnghnipoogaaDoorPC
/- The walks of placeOf, series, seriesFault, times; of slices.Index on ints. -/
namespace Go.Proofs.YtalnnghnipoogaaDoor
open Go.RowKit

noncomputable def seriesI (b : Ba) (s : ByteArray) : Int := if seriesE b s = 0 then placeI b.names s else 0
set_option maxRecDepth 100000 in
set_option maxHeartbeats 1000000 in
theorem series_any {v : Value} {b : Ba} {s : ByteArray} {w : World} (h : BaseAt w v b) (hst : ∀ s ∈ b.names, s.size ≤ 140737488351232) (hsz : SizesAt w) :
    Calls Tryd.prog 51 #[v, .string s] w fun e w' => e = .returned (.tuple #[.int .i64 (seriesI b s), .int .i64 (seriesE b s)]) ∧ Below w.heap.size w w' := by
  have HC := Lib.hid fun w' (hb : Below w.heap.size w w') => baseCheck_any (h.below hb) hst (hsz.below hb)
  obtain ⟨sa, sc, g0, l0, p0, g1, l1, p1, g2, l2, p2, rfl, hn, hnames, T0, T1, T2⟩ := h.open
  obtain ⟨W0, hW0⟩ : ∃ W0, W0 = w.alloc (.cells (baCells sa b.names.length sc g0 l0 p0 g1 l1 p1 g2 l2 p2 b) 28) := ⟨_, rfl⟩
  have hb0 : Below w.heap.size w W0 := by rw [hW0]; exact belowAuto
  have hz0 : W0.heap.size = w.heap.size + 1 := by rw [hW0]; simp
  have k0 : W0.heap[w.heap.size]? = some (.cells (baCells sa b.names.length sc g0 l0 p0 g1 l1 p1 g2 l2 p2 b) 28) := by rw [hW0]; exact heap_new _ _ rfl
  have HX := Lib.hid fun w' (hb : Below W0.heap.size W0 w') => (by
    have b0 : w'.heap[w.heap.size]? = _ := (hb.block _ (by omega)).trans k0
    simp [World.cell?, b0] :
    w'.cell? ⟨w.heap.size, 0, none⟩ = some (.slice sa b.names.length sc) ∧ w'.cell? ⟨w.heap.size, 1, none⟩ = some (.slice g0 l0 p0) ∧ w'.cell? ⟨w.heap.size, 2, none⟩ = some (.int .i64 b.t0.root) ∧ w'.cell? ⟨w.heap.size, 3, none⟩ = some (.slice g1 l1 p1) ∧ w'.cell? ⟨w.heap.size, 4, none⟩ = some (.int .i64 b.t1.root) ∧ w'.cell? ⟨w.heap.size, 5, none⟩ = some (.slice g2 l2 p2) ∧ w'.cell? ⟨w.heap.size, 6, none⟩ = some (.int .i64 b.t2.root) ∧ w'.cell? ⟨w.heap.size, 7, none⟩ = some (.int .i64 b.floor))
  have HB := Lib.hid fun w' (hb : Below W0.heap.size W0 w') => (Below.trans' hb0 hb hb0.size : Below w.heap.size w w')
  obtain ⟨x0, x1, x2, x3, x4, x5, x6, x7⟩ := HX.out W0 (Below.refl _ _)
  have HIX := Lib.hid fun w' (hb : Below W0.heap.size W0 w') => indexStr_any (s := s) (hnames.below (HB.out w' hb) (Nat.le_refl _))
  clear h hst hsz hnames T0 T1 T2
  go_enter Tryd.func51, Tryd.ntmps51
  go_upto_region 1 with (fail)
  rw [← hW0]
  clear hW0 k0
  rcases seriesE_cases b s with ⟨e1, e2⟩ | ⟨e1, e2, e3⟩ | ⟨e1, e2, k, hk, e3⟩
  · have hc : checkE b = 7 := checkE_no e2
    have HI := Lib.hid (show seriesI b s = 0 by unfold seriesI; rw [if_neg (by omega)])
    have HE := Lib.hid e1
    rw [hc] at HC
    clear hc e1 e2
    go_wp2_with ((go_at_call 25; (with_reducible refine (HC.out _ hb0).mono ?_); rintro e w1 ⟨rfl, hb1⟩))
    go_ret2
    rw [HI.out, HE.out]
    exact ⟨rfl, HB.out _ hb1⟩
  · have hc : checkE b = 0 := checkE_yes e2
    have HI := Lib.hid (show seriesI b s = 0 by unfold seriesI; rw [if_neg (by omega)])
    have HE := Lib.hid e1
    rw [hc] at HC
    rw [e3] at HIX
    clear hc e1 e2 e3
    go_wp2_with (first | (go_at_call 25; (with_reducible refine (HC.out _ hb0).mono ?_); rintro e w1 ⟨rfl, hb1⟩; obtain ⟨x0, -⟩ := HX.out _ hb1) | (go_at_call 38; (with_reducible refine (HIX.out _ hb1).mono ?_); rintro e w2 ⟨rfl, hb2⟩; have hb3 := Below.trans' hb1 hb2 hb1.size))
    go_ret2
    rw [HI.out, HE.out]
    exact ⟨rfl, HB.out _ hb3⟩
  · have hc : checkE b = 0 := checkE_yes e2
    have HI := Lib.hid (show seriesI b s = k by unfold seriesI; rw [if_pos e1]; exact e3)
    have HE := Lib.hid e1
    have hk0 : decide ((k : Int) < 0) = false := by simp
    rw [hc] at HC
    rw [e3] at HIX
    clear hc e1 e2 e3
    go_wp2_with (first | (go_at_call 25; (with_reducible refine (HC.out _ hb0).mono ?_); rintro e w1 ⟨rfl, hb1⟩; obtain ⟨x0, -⟩ := HX.out _ hb1) | (go_at_call 38; (with_reducible refine (HIX.out _ hb1).mono ?_); rintro e w2 ⟨rfl, hb2⟩; have hb3 := Below.trans' hb1 hb2 hb1.size))
    go_ret2
    rw [HI.out, HE.out]
    exact ⟨rfl, HB.out _ hb3⟩

theorem times_any (a z : Int) (w : World) : Calls Tryd.prog 53 #[.int .i64 a, .int .i64 z] w fun e w' => e = .returned (.bool (decide (rowsOk a z))) ∧ w' = w := by
  by_cases h1 : 0 ≤ a
  · have e1 : decide (0 ≤ a) = true := by simp [h1]
    by_cases h2 : z ≤ 1048575
    · have e2 : decide (z ≤ 1048575) = true := by simp [h2]
      by_cases h3 : a ≤ z
      · have e3 : decide (a ≤ z) = true := by simp [h3]
        have HR := Lib.hid (show true = decide (rowsOk a z) by simp [rowsOk, h1, h2, h3])
        clear h1 h2 h3
        go_enter Tryd.func53, Tryd.ntmps53
        go_wp2
        go_ret
        exact ⟨ret_bool HR.out, rfl⟩
      · have e3 : decide (a ≤ z) = false := by simp; omega
        have HR := Lib.hid (show false = decide (rowsOk a z) by simp [rowsOk, h3])
        clear h1 h2 h3
        go_enter Tryd.func53, Tryd.ntmps53
        go_wp2
        go_ret
        exact ⟨ret_bool HR.out, rfl⟩
    · have e2 : decide (z ≤ 1048575) = false := by simp; omega
      have HR := Lib.hid (show false = decide (rowsOk a z) by simp [rowsOk, h2])
      clear h1 h2
      go_enter Tryd.func53, Tryd.ntmps53
      go_wp2
      go_ret
      exact ⟨ret_bool HR.out, rfl⟩
  · have e1 : decide (0 ≤ a) = false := by simp; omega
    have HR := Lib.hid (show false = decide (rowsOk a z) by simp [rowsOk, h1])
    clear h1
    go_enter Tryd.func53, Tryd.ntmps53
    go_wp2
    go_ret
    exact ⟨ret_bool HR.out, rfl⟩

def sizeI (n : Int) : Int := if n = 1 then 0 else if n = 60 then 1 else if n = 3600 then 2 else -1
theorem sizeI_cases (n : Int) : (n = 1 ∧ sizeI n = 0) ∨ (n = 60 ∧ sizeI n = 1) ∨ (n = 3600 ∧ sizeI n = 2) ∨ (n ≠ 1 ∧ n ≠ 60 ∧ n ≠ 3600 ∧ sizeI n = -1) := by
  unfold sizeI
  by_cases h1 : n = 1
  · exact .inl ⟨h1, by rw [if_pos h1]⟩
  · by_cases h2 : n = 60
    · exact .inr (.inl ⟨h2, by rw [if_neg h1, if_pos h2]⟩)
    · by_cases h3 : n = 3600
      · exact .inr (.inr (.inl ⟨h3, by rw [if_neg h1, if_neg h2, if_pos h3]⟩))
      · exact .inr (.inr (.inr ⟨h1, h2, h3, by rw [if_neg h1, if_neg h2, if_neg h3]⟩))
set_option maxRecDepth 100000 in
set_option maxHeartbeats 1000000 in
theorem indexSize_any (n : Int) {w : World} (h : SizesAt w) :
    Calls Tryd.prog 52 #[.slice (some ⟨0, 0, none⟩) 3 3, .int .i64 n] w fun e w' => e = .returned (.int .i64 (sizeI n)) ∧ w' = w := by
  obtain ⟨-, c0, c1, c2⟩ := h
  rcases sizeI_cases n with ⟨h1, h2⟩ | ⟨h1, h2⟩ | ⟨h1, h2⟩ | ⟨h1, h3, h4, h2⟩
  · rw [h2]; clear h2; subst h1
    go_enter Tryd.func52, Tryd.ntmps52
    go_wp2_with fail
    go_loopg [8] 3 (fun g i wr => i = .int .i64 0 ∧ wr = w)
    case atStart => exact ⟨rfl, rfl⟩
    case round =>
      obtain ⟨rfl, rfl⟩ := hrel
      go_wp2
      go_ret
      exact ⟨rfl, rfl⟩
  · rw [h2]; clear h2; subst h1
    go_enter Tryd.func52, Tryd.ntmps52
    go_wp2_with fail
    go_loopg [8] 3 (fun g i wr => ∃ k : Nat, k ≤ 1 ∧ g = 3 - k ∧ i = .int .i64 k ∧ wr = w)
    case atStart => exact ⟨0, by omega, rfl, rfl, rfl⟩
    case round =>
      obtain ⟨k, hk, rfl, rfl, rfl⟩ := hrel
      obtain rfl | rfl : k = 0 ∨ k = 1 := by omega
      · go_wp2
        go_roundg 2
        case measure => omega
        case rel => exact ⟨1, by omega, rfl, by go_num, rfl⟩
      · go_wp2
        go_ret
        exact ⟨rfl, rfl⟩
  · rw [h2]; clear h2; subst h1
    go_enter Tryd.func52, Tryd.ntmps52
    go_wp2_with fail
    go_loopg [8] 3 (fun g i wr => ∃ k : Nat, k ≤ 2 ∧ g = 3 - k ∧ i = .int .i64 k ∧ wr = w)
    case atStart => exact ⟨0, by omega, rfl, rfl, rfl⟩
    case round =>
      obtain ⟨k, hk, rfl, rfl, rfl⟩ := hrel
      obtain rfl | rfl | rfl : k = 0 ∨ k = 1 ∨ k = 2 := by omega
      · go_wp2
        go_roundg 2
        case measure => omega
        case rel => exact ⟨1, by omega, rfl, by go_num, rfl⟩
      · go_wp2
        go_roundg 1
        case measure => omega
        case rel => exact ⟨2, by omega, rfl, by go_num, rfl⟩
      · go_wp2
        go_ret
        exact ⟨rfl, rfl⟩
  · rw [h2]; clear h2
    have n1 : (n == 1) = false := by simpa using h1
    have n2 : (n == 60) = false := by simpa using h3
    have n3 : (n == 3600) = false := by simpa using h4
    clear h1 h3 h4
    go_enter Tryd.func52, Tryd.ntmps52
    go_wp2_with fail
    go_loopg [8] 3 (fun g i wr => ∃ k : Nat, k ≤ 3 ∧ g = 3 - k ∧ i = .int .i64 k ∧ wr = w)
    case atStart => exact ⟨0, by omega, rfl, rfl, rfl⟩
    case round =>
      obtain ⟨k, hk, rfl, rfl, rfl⟩ := hrel
      obtain rfl | rfl | rfl | rfl : k = 0 ∨ k = 1 ∨ k = 2 ∨ k = 3 := by omega
      · go_wp2
        go_roundg 2
        case measure => omega
        case rel => exact ⟨1, by omega, rfl, by go_num, rfl⟩
      · go_wp2
        go_roundg 1
        case measure => omega
        case rel => exact ⟨2, by omega, rfl, by go_num, rfl⟩
      · go_wp2
        go_roundg 0
        case measure => omega
        case rel => exact ⟨3, by omega, rfl, by go_num, rfl⟩
      · go_wp2
        go_ret
        exact ⟨rfl, rfl⟩
end Go.Proofs.YtalnnghnipoogaaDoor

/- The walks of base.Rows and of the document's RowsOf. -/
namespace Go.Proofs.YtalnnghnipoogaaDoor
open Go.RowKit

def RowsPost (B : Nat) (w : World) (out : List Ent) (E : Int) (e : Ending) (w' : World) : Prop := Below B w w' ∧ ∃ v, e = .returned (.tuple #[v, .int .i64 E]) ∧ OwnRows B w' v out
theorem szOf_cases {n : Int} {k : Nat} (hk : k < 3) (h : n = szOf k) : n = 1 ∨ n = 60 ∨ n = 3600 := by
  obtain rfl | rfl | rfl : k = 0 ∨ k = 1 ∨ k = 2 := by omega
  · exact .inl h
  · exact .inr (.inl h)
  · exact .inr (.inr h)
theorem sizes_cases (n : Int) : (∃ k, k < 3 ∧ n = szOf k ∧ sizeI n = k) ∨ (n ≠ 1 ∧ n ≠ 60 ∧ n ≠ 3600 ∧ sizeI n = -1) := by
  rcases sizeI_cases n with ⟨h1, h2⟩ | ⟨h1, h2⟩ | ⟨h1, h2⟩ | h
  · exact .inl ⟨0, by decide, h1, h2⟩
  · exact .inl ⟨1, by decide, h1, h2⟩
  · exact .inl ⟨2, by decide, h1, h2⟩
  · exact .inr h
theorem rowsE_series {b : Ba} {s : ByteArray} {n a z : Int} (h : seriesE b s ≠ 0) : rowsE b s n a z = seriesE b s ∧ rowsR b s n a z = [] := by
  have h1 : rowsE b s n a z = seriesE b s := by unfold rowsE; rw [if_pos h]
  exact ⟨h1, by unfold rowsR; rw [if_neg (by rw [h1]; exact h)]⟩
theorem rowsE_size {b : Ba} {s : ByteArray} {n a z : Int} (h : seriesE b s = 0) (hn : n ≠ 1 ∧ n ≠ 60 ∧ n ≠ 3600) : rowsE b s n a z = 3 ∧ rowsR b s n a z = [] := by
  have h1 : rowsE b s n a z = 3 := by unfold rowsE; rw [if_neg (not_not_intro h), if_pos hn]
  exact ⟨h1, by unfold rowsR; rw [if_neg (by rw [h1]; decide)]⟩
theorem rowsE_range {b : Ba} {s : ByteArray} {n a z : Int} {k : Nat} (h : seriesE b s = 0) (hk : k < 3) (hn : n = szOf k) (hr : ¬ rowsOk a z) : rowsE b s n a z = 2 ∧ rowsR b s n a z = [] := by
  have h0 := szOf_cases hk hn
  have h1 : rowsE b s n a z = 2 := by unfold rowsE; rw [if_neg (not_not_intro h), if_neg (by omega), if_pos hr]
  exact ⟨h1, by unfold rowsR; rw [if_neg (by rw [h1]; decide)]⟩
theorem rowsE_long {b : Ba} {s : ByteArray} {n a z : Int} {k : Nat} (h : seriesE b s = 0) (hk : k < 3) (hn : n = szOf k) (hr : rowsOk a z) (hl : 500 < (rowsL b s n a z).length) : rowsE b s n a z = 1 ∧ rowsR b s n a z = [] := by
  have h0 := szOf_cases hk hn
  have h1 : rowsE b s n a z = 1 := by unfold rowsE; rw [if_neg (not_not_intro h), if_neg (by omega), if_neg (not_not_intro hr), if_pos hl]
  exact ⟨h1, by unfold rowsR; rw [if_neg (by rw [h1]; decide)]⟩
theorem rowsE_ok {b : Ba} {s : ByteArray} {n a z : Int} {k : Nat} (h : seriesE b s = 0) (hk : k < 3) (hn : n = szOf k) (hr : rowsOk a z) (hl : ¬ 500 < (rowsL b s n a z).length) : rowsE b s n a z = 0 ∧ rowsR b s n a z = rowsL b s n a z := by
  have h0 := szOf_cases hk hn
  have h1 : rowsE b s n a z = 0 := by unfold rowsE; rw [if_neg (not_not_intro h), if_neg (by omega), if_neg (not_not_intro hr), if_neg hl]
  exact ⟨h1, by unfold rowsR; rw [if_pos h1]⟩

set_option maxRecDepth 100000 in
set_option maxHeartbeats 4000000 in
theorem rows_any {v : Value} {b : Ba} {s : ByteArray} {n a z : Int} {w : World} (h : BaseAt w v b) (hst : ∀ s ∈ b.names, s.size ≤ 140737488351232) (hsz : SizesAt w) :
    Calls Tryd.prog 21 #[v, .string s, .int .i64 n, .int .i64 a, .int .i64 z] w (RowsPost w.heap.size w (rowsR b s n a z) (rowsE b s n a z)) := by
  have HSE := Lib.hid fun w' (hb : Below w.heap.size w w') => series_any (s := s) (h.below hb) hst (hsz.below hb)
  obtain ⟨sa, sc, g0, l0, p0, g1, l1, p1, g2, l2, p2, rfl, hn, hnames, T0, T1, T2⟩ := h.open
  obtain ⟨W0, hW0⟩ : ∃ W0, W0 = w.alloc (.cells (baCells sa b.names.length sc g0 l0 p0 g1 l1 p1 g2 l2 p2 b) 28) := ⟨_, rfl⟩
  have hb0 : Below w.heap.size w W0 := by rw [hW0]; exact belowAuto
  have hz0 : W0.heap.size = w.heap.size + 1 := by rw [hW0]; simp
  have k0 : W0.heap[w.heap.size]? = some (.cells (baCells sa b.names.length sc g0 l0 p0 g1 l1 p1 g2 l2 p2 b) 28) := by rw [hW0]; exact heap_new _ _ rfl
  have HX := Lib.hid fun w' (hb : Below W0.heap.size W0 w') => (by
    have b0 : w'.heap[w.heap.size]? = _ := (hb.block _ (by omega)).trans k0
    simp [World.cell?, b0] :
    w'.cell? ⟨w.heap.size, 0, none⟩ = some (.slice sa b.names.length sc) ∧ w'.cell? ⟨w.heap.size, 1, none⟩ = some (.slice g0 l0 p0) ∧ w'.cell? ⟨w.heap.size, 2, none⟩ = some (.int .i64 b.t0.root) ∧ w'.cell? ⟨w.heap.size, 3, none⟩ = some (.slice g1 l1 p1) ∧ w'.cell? ⟨w.heap.size, 4, none⟩ = some (.int .i64 b.t1.root) ∧ w'.cell? ⟨w.heap.size, 5, none⟩ = some (.slice g2 l2 p2) ∧ w'.cell? ⟨w.heap.size, 6, none⟩ = some (.int .i64 b.t2.root) ∧ w'.cell? ⟨w.heap.size, 7, none⟩ = some (.int .i64 b.floor))
  have HB := Lib.hid fun w' (hb : Below W0.heap.size W0 w') => (Below.trans' hb0 hb hb0.size : Below w.heap.size w w')
  obtain ⟨x0, x1, x2, x3, x4, x5, x6, x7⟩ := HX.out W0 (Below.refl _ _)
  have HSZ := Lib.hid fun w' (hb : Below W0.heap.size W0 w') => (hsz.below (HB.out w' hb) : SizesAt w')
  have HSI := Lib.hid fun w' (hb : Below W0.heap.size W0 w') => indexSize_any n (HSZ.out w' hb)
  have HT0 := Lib.hid fun w' lo hi (hb : Below W0.heap.size W0 w') => all_any (lo := lo) (hi := hi) (T0 w' (HB.out w' hb))
  have HT1 := Lib.hid fun w' lo hi (hb : Below W0.heap.size W0 w') => all_any (lo := lo) (hi := hi) (T1 w' (HB.out w' hb))
  have HT2 := Lib.hid fun w' lo hi (hb : Below W0.heap.size W0 w') => all_any (lo := lo) (hi := hi) (T2 w' (HB.out w' hb))
  clear h hst hsz hnames T0 T1 T2
  go_enter Tryd.func21, Tryd.ntmps21
  go_upto_region 1 with (fail)
  rw [← hW0]
  clear hW0 k0
  rcases seriesE_cases b s with ⟨e1, e2⟩ | ⟨e1, e2, e3⟩ | ⟨e1, e2, p, hp, e3⟩
  · obtain ⟨r1, r2⟩ := rowsE_series (n := n) (a := a) (z := z) (show seriesE b s ≠ 0 by omega)
    have HR := Lib.hid (And.intro (r1.trans e1) r2)
    rw [e1] at HSE
    clear e1 e2 r1 r2
    go_wp2_with ((go_at_call 51; (with_reducible refine (HSE.out _ hb0).mono ?_); rintro e w1 ⟨rfl, hb1⟩))
    go_ret2
    rw [HR.out.1, HR.out.2]
    exact ⟨HB.out _ hb1, _, rfl, OwnRows.nil _ _⟩
  · obtain ⟨r1, r2⟩ := rowsE_series (n := n) (a := a) (z := z) (show seriesE b s ≠ 0 by omega)
    have HR := Lib.hid (And.intro (r1.trans e1) r2)
    rw [e1] at HSE
    clear e1 e2 e3 r1 r2
    go_wp2_with ((go_at_call 51; (with_reducible refine (HSE.out _ hb0).mono ?_); rintro e w1 ⟨rfl, hb1⟩))
    go_ret2
    rw [HR.out.1, HR.out.2]
    exact ⟨HB.out _ hb1, _, rfl, OwnRows.nil _ _⟩
  · have hI : seriesI b s = p := by unfold seriesI; rw [if_pos e1]; exact e3
    rw [e1, hI] at HSE
    clear hI
    go_upto_region 4 with ((go_at_call 51; (with_reducible refine (HSE.out _ hb0).mono ?_); rintro e w1 ⟨rfl, hb1⟩; obtain ⟨x0, x1, x2, x3, x4, x5, x6, x7⟩ := HX.out _ hb1))
    have hbw1 := HB.out _ hb1
    rcases sizes_cases n with ⟨k, hk, hn3, hi⟩ | ⟨n1, n2, n3, hi⟩
    · rw [hi] at HSI
      have hkd : decide ((k : Int) < 0) = false := by simp
      have HT := Lib.hid (times_any a z)
      by_cases hr : rowsOk a z
      · have htd : decide (rowsOk a z) = true := by simp [hr]
        rw [htd] at HT
        obtain ⟨m, q1, q2, q3, q4, q5⟩ := rows_filter (s := s) e2 hk hr
        rw [e3] at q1 q3
        rw [← hn3] at q1
        obtain ⟨hr1, hr2, hr3⟩ := id hr
        obtain ⟨lo, hlo⟩ : ∃ lo, (p : Int) * 1048576 + a = lo := ⟨_, rfl⟩
        obtain ⟨hi', hhi⟩ : ∃ hi', (p : Int) * 1048576 + z + 1 = hi' := ⟨_, rfl⟩
        rw [hlo, hhi] at q1 q3
        have m1 : IntKind.i64.wrap ((p : Int) * 1048576) = (p : Int) * 1048576 := IntWalk.i64_in _ (by omega)
        have m2 : IntKind.i64.wrap ((p : Int) * 1048576 + a) = lo := by rw [hlo]; exact IntWalk.i64_in _ (by omega)
        have m3 : IntKind.i64.wrap ((p : Int) * 1048576 + z) = (p : Int) * 1048576 + z := IntWalk.i64_in _ (by omega)
        have m4 : IntKind.i64.wrap ((p : Int) * 1048576 + z + 1) = hi' := by rw [hhi]; exact IntWalk.i64_in _ (by omega)
        obtain ⟨ms, hms⟩ : ∃ ms, m.filter (inRange lo hi') = ms := ⟨_, rfl⟩
        have hmk : ∀ y ∈ ms, 0 ≤ y.key ∧ y.key < 1099511627776 := fun y hy => by rw [← hms] at hy; exact q5.2.1 y (List.mem_filter.1 hy).1
        have hml : ms.length ≤ 50000 := by rw [← hms]; exact Nat.le_trans (List.length_filter_le _ _) q5.2.2
        rw [hms] at q1 q3
        have HL := Lib.hid q1
        have HMK := Lib.hid hmk
        have HSER := Lib.hid e1
        have HN3 := Lib.hid hn3
        have HRO := Lib.hid hr
        have HQ2 := Lib.hid q2
        have HQ3 := Lib.hid q3
        have hk0 : (0 : Int) ≤ (k : Int) := by omega
        have hk3 : (k : Int) < 3 := by omega
        clear q1 q2 q3 q4 q5 hms hlo hhi hr htd hr1 hr2 hr3 e1 e2 e3 hmk hn3 hi HSE
        go_upto_region 9 with (first | (go_at_call 52; (with_reducible refine (HSI.out _ hb1).mono ?_); rintro e w2 ⟨rfl, hw2⟩; obtain rfl := hw2.symm) | (go_at_call 53; (with_reducible refine (HT.out _).mono ?_); rintro e w2 ⟨rfl, hw2⟩; obtain rfl := hw2.symm))
        go_cut [15, 13] (fun u c wx => ∃ su sd, u = .slice su ms.length sd ∧ c = .int .i64 0 ∧ OwnEnts w1.heap.size wx (.slice su ms.length sd) ms ∧ Below w1.heap.size w1 wx)
        case first =>
          obtain rfl | rfl | rfl : k = 0 ∨ k = 1 ∨ k = 2 := by omega
          · have HA := Lib.hid (HT0.out w1 lo hi' hb1)
            go_wp2_with ((go_at_call 54; (with_reducible refine HA.out.mono ?_); rintro e w3 ⟨hb3, -, hok⟩; have hok := hok HQ2.out; rw [show allR b.t0 lo hi' = some ms from HQ3.out] at hok; obtain ⟨v3, rfl, ho3⟩ := hok; obtain ⟨su, sd, rfl⟩ := ho3.isSlice))
            go_meet
            exact ⟨_, _, rfl, rfl, ho3, hb3⟩
          · have HA := Lib.hid (HT1.out w1 lo hi' hb1)
            go_wp2_with ((go_at_call 54; (with_reducible refine HA.out.mono ?_); rintro e w3 ⟨hb3, -, hok⟩; have hok := hok HQ2.out; rw [show allR b.t1 lo hi' = some ms from HQ3.out] at hok; obtain ⟨v3, rfl, ho3⟩ := hok; obtain ⟨su, sd, rfl⟩ := ho3.isSlice))
            go_meet
            exact ⟨_, _, rfl, rfl, ho3, hb3⟩
          · have HA := Lib.hid (HT2.out w1 lo hi' hb1)
            go_wp2_with ((go_at_call 54; (with_reducible refine HA.out.mono ?_); rintro e w3 ⟨hb3, -, hok⟩; have hok := hok HQ2.out; rw [show allR b.t2 lo hi' = some ms from HQ3.out] at hok; obtain ⟨v3, rfl, ho3⟩ := hok; obtain ⟨su, sd, rfl⟩ := ho3.isSlice))
            go_meet
            exact ⟨_, _, rfl, rfl, ho3, hb3⟩
        case rest =>
          obtain ⟨su, sd, rfl, rfl, ho3, hb3⟩ := hcut
          rename World => w3
          have hbw3 : Below w.heap.size w w3 := Below.trans' hbw1 hb3 hbw1.size
          clear x0 x1 x2 x3 x4 x5 x6 x7 m1 m2 m3 m4 HSI HT
          by_cases hl : 500 < ms.length
          · have hld : decide ((500 : Int) < (ms.length : Int)) = true := by simp; omega
            have HR := Lib.hid (rowsE_long HSER.out hk HN3.out HRO.out (by rw [HL.out, List.length_map]; exact hl))
            clear hl
            go_wp2
            go_ret2
            rw [HR.out.1, HR.out.2]
            exact ⟨hbw3, _, rfl, OwnRows.nil _ _⟩
          · have hld : decide ((500 : Int) < (ms.length : Int)) = false := by simp; omega
            have HR := Lib.hid (rowsE_ok HSER.out hk HN3.out HRO.out (by rw [HL.out, List.length_map]; exact hl))
            clear hl
            have HEN := Lib.hid (ho3.at (by omega))
            clear ho3
            go_wp2_with fail
            clear hld
            go_loopg [16, 62] ms.length (fun g out i wr => ∃ j : Nat, j ≤ ms.length ∧ g = ms.length - j ∧ i = .int .i64 j ∧ OwnRows w3.heap.size wr out ((ms.take j).map rowOf) ∧ Below w3.heap.size w3 wr)
            case atStart => exact ⟨0, Nat.zero_le _, rfl, rfl, OwnRows.nil _ _, Below.refl _ _⟩
            case round =>
              obtain ⟨j, hj, rfl, rfl, hown, hb⟩ := hrel
              have hzb := hb.size
              have hbw := Below.trans' hbw3 hb hbw3.size
              by_cases hlt : j < ms.length
              · obtain ⟨_, _, hv, -, -, -, -, h5⟩ := HEN.out
                injection hv with hv1 _ hv3
                subst hv1 hv3
                obtain ⟨eb, eoff, hla, heb, hec⟩ := h5 (by omega)
                subst hla
                obtain ⟨y0, y1, y2, y3, y4, y5, y6⟩ := ent_cells hb heb hec hlt
                obtain ⟨y, hy⟩ : ∃ y, ms[j] = y := ⟨_, rfl⟩
                rw [hy] at y0 y1 y2 y3 y4 y5 y6
                obtain ⟨hk0, hk1⟩ := HMK.out y (by rw [← hy]; exact List.getElem_mem hlt)
                obtain ⟨M, hM⟩ : ∃ M, y.key % 1048576 = M := ⟨_, rfl⟩
                have HTK := Lib.hid (show (ms.take (j + 1)).map rowOf = (ms.take j).map rowOf ++ [⟨M, y.is⟩] by rw [List.take_succ_eq_append_getElem hlt, List.map_append, hy]; simp [rowOf, hM])
                have m1 : y.key.tmod 1048576 = M := by rw [Int.tmod_eq_emod_of_nonneg hk0]; exact hM
                have m4 : IntKind.i64.wrap M = M := IntWalk.i64_in _ (by omega)
                have hlo : ((ms.take j).map rowOf).length ≤ 1000000 := by rw [List.length_map, List.length_take]; omega
                have hix := fun w' => idx_ents (ab := eb) (aoff := eoff) (n := ms.length) (cap := sd) (show (j : Int) = ((j : Nat) : Int) by rfl) hlt w'
                have hwz : eb < wr.heap.size := by omega
                obtain ⟨os, hos⟩ : ∃ os, (ms.take j).map rowOf = os := ⟨_, rfl⟩
                rw [hos] at hown HTK hlo
                obtain ⟨so, sc2, rfl⟩ := hown.isSlice
                obtain ⟨W1, hW1⟩ : ∃ W1, W1 = wr.alloc (.cells #[.int .i64 y.key, .int .i64 y.is.c, .int .i64 y.is.s, .int .i64 y.is.mi, .int .i64 y.is.ma, .int .i64 y.is.t, .int .i64 y.is.l] 89) := ⟨_, rfl⟩
                have hb1 : Below wr.heap.size wr W1 := by rw [hW1]; exact belowAuto
                have k1 : W1.heap[wr.heap.size]? = some (.cells #[.int .i64 y.key, .int .i64 y.is.c, .int .i64 y.is.s, .int .i64 y.is.mi, .int .i64 y.is.ma, .int .i64 y.is.t, .int .i64 y.is.l] 89) := by rw [hW1]; exact heap_new _ _ rfl
                have hbn : Below w3.heap.size w3 W1 := Below.trans' hb hb1 hzb
                have hzn := hbn.size
                obtain ⟨q0, q1, q2, q3, q4, q5, q6⟩ : W1.cell? ⟨wr.heap.size, 0, none⟩ = some (.int .i64 y.key) ∧ W1.cell? ⟨wr.heap.size, 1, none⟩ = some (.int .i64 y.is.c) ∧ W1.cell? ⟨wr.heap.size, 2, none⟩ = some (.int .i64 y.is.s) ∧ W1.cell? ⟨wr.heap.size, 3, none⟩ = some (.int .i64 y.is.mi) ∧ W1.cell? ⟨wr.heap.size, 4, none⟩ = some (.int .i64 y.is.ma) ∧ W1.cell? ⟨wr.heap.size, 5, none⟩ = some (.int .i64 y.is.t) ∧ W1.cell? ⟨wr.heap.size, 6, none⟩ = some (.int .i64 y.is.l) := by simp [World.cell?, k1]
                have hown1 : OwnRows w3.heap.size W1 (.slice so os.length sc2) os := hown.below hb1 (Nat.le_refl _)
                clear hec h5 hy hM hos
                go_upto_region 18 with (fail)
                rw [← hW1]
                clear hW1 k1 hown y0 y1 y2 y3 y4 y5 y6
                go_wp2_with ((at_builtin; refine wpList_append_row rfl (.tmp 66) (.tmp 73) rfl w3.heap.size _ os rfl (by repeat (first | assumption | with_reducible refine OwnRows.alloc ?_ _ | with_reducible refine OwnRows.drewN ?_ _ | with_reducible refine OwnRows.drew ?_)) ⟨_, 0, none⟩ ⟨M, y.is⟩ rfl (fun j u h => ent_new h) hlo (by first | omega | (simp; done) | (simp; omega) | (simp [drew_size]; done) | (simp [drew_size]; omega)) ?_; intro v4 w4 own4 hg4; have hb4 := hg4 w3.heap.size w3 belowAuto (Nat.le_refl _)))
                go_roundg (ms.length - (j + 1))
                case measure => omega
                case rel => exact ⟨j + 1, by omega, rfl, by go_num, by rw [HTK.out]; exact own4, hb4⟩
              · have hall : ms.take j = ms := List.take_of_length_le (by omega)
                rw [hall] at hown
                clear hall
                go_wp2
                go_ret2
                rw [HR.out.1, HR.out.2, HL.out]
                exact ⟨hbw, _, rfl, hown.mono hbw3.size⟩
      · have htd : decide (rowsOk a z) = false := by simp [hr]
        rw [htd] at HT
        have HR := Lib.hid (rowsE_range (s := s) e1 hk hn3 hr)
        clear e1 e2 e3 hr htd hn3
        go_wp2_with (first | (go_at_call 52; (with_reducible refine (HSI.out _ hb1).mono ?_); rintro e w2 ⟨rfl, hw2⟩; obtain rfl := hw2.symm) | (go_at_call 53; (with_reducible refine (HT.out _).mono ?_); rintro e w2 ⟨rfl, hw2⟩; obtain rfl := hw2.symm))
        go_ret2
        rw [HR.out.1, HR.out.2]
        exact ⟨hbw1, _, rfl, OwnRows.nil _ _⟩
    · have HR := Lib.hid (rowsE_size (a := a) (z := z) e1 ⟨n1, n2, n3⟩)
      rw [hi] at HSI
      clear e1 e2 e3 n1 n2 n3 hi
      go_wp2_with ((go_at_call 52; (with_reducible refine (HSI.out _ hb1).mono ?_); rintro e w2 ⟨rfl, hw2⟩; obtain rfl := hw2.symm))
      go_ret2
      rw [HR.out.1, HR.out.2]
      exact ⟨hbw1, _, rfl, OwnRows.nil _ _⟩
end Go.Proofs.YtalnnghnipoogaaDoor
