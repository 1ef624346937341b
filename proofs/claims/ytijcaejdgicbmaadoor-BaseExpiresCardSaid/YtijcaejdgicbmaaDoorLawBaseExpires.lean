/- The law BaseExpires. -/
import Derived.Test.YtijcaejdgicbmaaDoorEX
import Derived.Test.YtijcaejdgicbmaaDoorEB
import Derived.Test.YtijcaejdgicbmaaDoorBK
namespace Go.Proofs.YtijcaejdgicbmaaDoor
open Go.RowKit

/-- What base.Expire hands back, in one form. -/
def ExpForm (b : Ba) (time : Int) (w' : World) (sa : Option Addr) (nn sc : Nat) (g0 : Option Addr) (l0 p0 : Nat) (r0 : Int) (g1 : Option Addr) (l1 p1 : Nat) (r1 : Int) (g2 : Option Addr) (l2 p2 : Nat) (r2 fl E2 : Int) : Prop :=
  (E2 ≠ 0 ∧ (sa = none ∧ nn = 0 ∧ sc = 0) ∧ (g0 = none ∧ l0 = 0 ∧ p0 = 0 ∧ r0 = 0) ∧ (g1 = none ∧ l1 = 0 ∧ p1 = 0 ∧ r1 = 0) ∧ (g2 = none ∧ l2 = 0 ∧ p2 = 0 ∧ r2 = 0) ∧ fl = 0 ∧ (E2 = expF b time ∨ (expF b time = 0 ∧ E2 = 1 ∧ 2900 < (expL b time).length))) ∨
  (E2 = 0 ∧ expF b time = 0 ∧ ∃ b', BaseAt w' (.agg #[.slice sa nn sc, .slice g0 l0 p0, .int .i64 r0, .slice g1 l1 p1, .int .i64 r1, .slice g2 l2 p2, .int .i64 r2, .int .i64 fl]) b' ∧ b'.names = b.names ∧ b'.floor = time ∧ baseMay b' = true ∧ bookR b' = some (expL b time))
theorem baseExpire_form {v : Value} {b : Ba} {time : Int} {w : World} (h : BaseAt w v b) (hst : ∀ s ∈ b.names, s.size ≤ 140737488351232) (hsz : SizesAt w) :
    Calls Tryd.prog 25 #[v, .int .i64 time] w fun x w' => Below w.heap.size w w' ∧ ∃ sa nn sc g0 l0 p0 r0 g1 l1 p1 r1 g2 l2 p2 r2 fl E2, x = .returned (.tuple #[.agg #[.slice sa nn sc, .slice g0 l0 p0, .int .i64 r0, .slice g1 l1 p1, .int .i64 r1, .slice g2 l2 p2, .int .i64 r2, .int .i64 fl], .int .i64 E2]) ∧ ExpForm b time w' sa nn sc g0 l0 p0 r0 g1 l1 p1 r1 g2 l2 p2 r2 fl E2 := by
  refine (baseExpire_any h hst hsz).mono ?_
  rintro x w' ⟨hb, ⟨h1, rfl⟩ | ⟨h1, ⟨rfl, h2⟩ | ⟨b', sa, sc, g0, l0, p0, g1, l1, p1, g2, l2, p2, rfl, h2, h3, h4, h5, h6⟩⟩⟩
  · exact ⟨hb, none, 0, 0, none, 0, 0, 0, none, 0, 0, 0, none, 0, 0, 0, 0, _, rfl, .inl ⟨h1, ⟨rfl, rfl, rfl⟩, ⟨rfl, rfl, rfl, rfl⟩, ⟨rfl, rfl, rfl, rfl⟩, ⟨rfl, rfl, rfl, rfl⟩, rfl, .inl rfl⟩⟩
  · exact ⟨hb, none, 0, 0, none, 0, 0, 0, none, 0, 0, 0, none, 0, 0, 0, 0, _, rfl, .inl ⟨by decide, ⟨rfl, rfl, rfl⟩, ⟨rfl, rfl, rfl, rfl⟩, ⟨rfl, rfl, rfl, rfl⟩, ⟨rfl, rfl, rfl, rfl⟩, rfl, .inr ⟨h1, rfl, h2⟩⟩⟩
  · exact ⟨hb, _, _, _, _, _, _, _, _, _, _, _, _, _, _, _, _, _, rfl, .inr ⟨rfl, h1, b', h2, h3, h4, h5, h6⟩⟩
set_option maxRecDepth 100000 in
theorem keptZ_any (w : World) : Calls Tryd.prog 23 #[zeroB] w fun x w' => x = .returned (.bool true) ∧ Below w.heap.size w w' := by
  obtain ⟨W0, hW0⟩ : ∃ W0, W0 = w.alloc (.cells zeroBC 28) := ⟨_, rfl⟩
  have hb0 : Below w.heap.size w W0 := by rw [hW0]; exact (by repeat (first | with_reducible exact Below.refl _ _ | with_reducible assumption | with_reducible refine below_dn ?_ _ | with_reducible refine Below.drew ?_ | with_reducible refine Below.alloc ?_ (by first | omega | (simp; done) | (simp; omega) | (simp [drew_size]; done) | (simp [drew_size]; omega)) _ | with_reducible refine Below.setCell ?_ (by first | omega | (simp; done) | (simp; omega) | (simp [drew_size]; done) | (simp [drew_size]; omega)) _))
  have k0 : W0.heap[w.heap.size]? = some (.cells zeroBC 28) := by rw [hW0]; exact heap_new _ _ rfl
  obtain ⟨x0, x1, x3, x5, x7⟩ : W0.cell? ⟨w.heap.size, 0, none⟩ = some (.slice none 0 0) ∧ W0.cell? ⟨w.heap.size, 1, none⟩ = some (.slice none 0 0) ∧ W0.cell? ⟨w.heap.size, 3, none⟩ = some (.slice none 0 0) ∧ W0.cell? ⟨w.heap.size, 5, none⟩ = some (.slice none 0 0) ∧ W0.cell? ⟨w.heap.size, 7, none⟩ = some (.int .i64 0) := by simp [World.cell?, k0]
  go_enter Tryd.func23, Tryd.ntmps23
  go_upto_region 1 with (fail)
  rw [← hW0]
  clear hW0 k0
  go_wp2
  go_ret
  exact ⟨ret_bool (by simp), (by repeat (first | with_reducible exact Below.refl _ _ | with_reducible assumption | with_reducible refine below_dn ?_ _ | with_reducible refine Below.drew ?_ | with_reducible refine Below.alloc ?_ (by first | omega | (simp; done) | (simp; omega) | (simp [drew_size]; done) | (simp [drew_size]; omega)) _ | with_reducible refine Below.setCell ?_ (by first | omega | (simp; done) | (simp; omega) | (simp [drew_size]; done) | (simp [drew_size]; omega)) _))⟩
theorem expR_len {b : Ba} {time : Int} (h : baseMay b = true ∨ True) : (expR b time).length ≤ 1000000 := by
  unfold expR
  split
  · rename_i h0
    obtain ⟨l, hl, -, hg, -⟩ := base_knows (expF_ok h0).1
    unfold expL
    rw [hl]
    have := List.length_filter_le (young time) l
    have := hg.2.2
    simp only
    omega
  · simp
set_option maxRecDepth 100000 in
set_option maxHeartbeats 2000000 in
theorem baseExpires_any {v : Value} {b : Ba} {time : Int} {w : World} (h : BaseAt w v b) (hst : ∀ s ∈ b.names, s.size ≤ 140737488351232) (hsz : SizesAt w) :
    Calls Tryd.prog 8 #[v, .int .i64 time] w fun e w' => e = .returned (.bool true) ∧ Below w.heap.size w w' := by
  have HC := Lib.hid fun w' (hb : Below w.heap.size w w') => baseExpire_form (time := time) (h.below hb) hst (hsz.below hb)
  have HM := Lib.hid fun w' (hb : Below w.heap.size w w') => refExp_any (time := time) (h.below hb) hst
  obtain ⟨sa, sc, g0, l0, p0, g1, l1, p1, g2, l2, p2, rfl, hn, hnames, -⟩ := h.open
  obtain ⟨W0, hW0⟩ : ∃ W0, W0 = w.alloc (.cells (baCells sa b.names.length sc g0 l0 p0 g1 l1 p1 g2 l2 p2 b) 28) := ⟨_, rfl⟩
  have hb0 : Below w.heap.size w W0 := by rw [hW0]; exact (by repeat (first | with_reducible exact Below.refl _ _ | with_reducible assumption | with_reducible refine below_dn ?_ _ | with_reducible refine Below.drew ?_ | with_reducible refine Below.alloc ?_ (by first | omega | (simp; done) | (simp; omega) | (simp [drew_size]; done) | (simp [drew_size]; omega)) _ | with_reducible refine Below.setCell ?_ (by first | omega | (simp; done) | (simp; omega) | (simp [drew_size]; done) | (simp [drew_size]; omega)) _))
  have hz0 : W0.heap.size = w.heap.size + 1 := by rw [hW0]; simp
  have k0 : W0.heap[w.heap.size]? = some (.cells (baCells sa b.names.length sc g0 l0 p0 g1 l1 p1 g2 l2 p2 b) 28) := by rw [hW0]; exact heap_new _ _ rfl
  have HX := Lib.hid fun w' (hb : Below W0.heap.size W0 w') => (by
    have b0 : w'.heap[w.heap.size]? = _ := (hb.block _ (by omega)).trans k0
    simp [World.cell?, b0] :
    w'.cell? ⟨w.heap.size, 0, none⟩ = some (.slice sa b.names.length sc) ∧ w'.cell? ⟨w.heap.size, 1, none⟩ = some (.slice g0 l0 p0) ∧ w'.cell? ⟨w.heap.size, 2, none⟩ = some (.int .i64 b.t0.root) ∧ w'.cell? ⟨w.heap.size, 3, none⟩ = some (.slice g1 l1 p1) ∧ w'.cell? ⟨w.heap.size, 4, none⟩ = some (.int .i64 b.t1.root) ∧ w'.cell? ⟨w.heap.size, 5, none⟩ = some (.slice g2 l2 p2) ∧ w'.cell? ⟨w.heap.size, 6, none⟩ = some (.int .i64 b.t2.root) ∧ w'.cell? ⟨w.heap.size, 7, none⟩ = some (.int .i64 b.floor))
  have HB := Lib.hid fun w' (hb : Below W0.heap.size W0 w') => (Below.trans' hb0 hb hb0.size : Below w.heap.size w w')
  have HSN := Lib.hid fun w' (hb : Below W0.heap.size W0 w') => (hnames.below (HB.out w' hb) (Nat.le_refl _) : StrsAt w' (.slice sa b.names.length sc) b.names)
  have HST := Lib.hid hst
  obtain ⟨x0, x1, x2, x3, x4, x5, x6, x7⟩ := HX.out W0 (Below.refl _ _)
  clear h hst hsz hnames
  obtain ⟨F, hF⟩ : ∃ F, expF b time = F := ⟨_, rfl⟩
  have HF := Lib.hid hF
  have hRl : (expR b time).length ≤ 1000000 := expR_len (.inr trivial)
  obtain ⟨R, hR⟩ : ∃ R, expR b time = R := ⟨_, rfl⟩
  have HR := Lib.hid hR
  rw [hF, hR] at HM
  rw [hR] at hRl
  clear hF hR
  go_enter Tryd.func8, Tryd.ntmps8
  go_upto_region 1 with (fail)
  rw [← hW0]
  clear hW0 k0
  go_upto_region 2 with (go_at_call 25; (with_reducible refine (HC.out _ hb0).mono ?_); rintro e w1 ⟨hb1, ra, rn, rc, h0, m0, n0, q0, h1, m1, n1, q1, h2, m2, n2, q2, fl, E2, rfl, hform⟩)
  have HFM := Lib.hid hform
  obtain ⟨W1, hW1⟩ : ∃ W1, W1 = w1.alloc (.cells #[.slice ra rn rc, .slice h0 m0 n0, .int .i64 q0, .slice h1 m1 n1, .int .i64 q1, .slice h2 m2 n2, .int .i64 q2, .int .i64 fl] 28) := ⟨_, rfl⟩
  have hb2 : Below w1.heap.size w1 W1 := by rw [hW1]; exact (by repeat (first | with_reducible exact Below.refl _ _ | with_reducible assumption | with_reducible refine below_dn ?_ _ | with_reducible refine Below.drew ?_ | with_reducible refine Below.alloc ?_ (by first | omega | (simp; done) | (simp; omega) | (simp [drew_size]; done) | (simp [drew_size]; omega)) _ | with_reducible refine Below.setCell ?_ (by first | omega | (simp; done) | (simp; omega) | (simp [drew_size]; done) | (simp [drew_size]; omega)) _))
  have hz2 : W1.heap.size = w1.heap.size + 1 := by rw [hW1]; simp
  have k2 : W1.heap[w1.heap.size]? = some (.cells #[.slice ra rn rc, .slice h0 m0 n0, .int .i64 q0, .slice h1 m1 n1, .int .i64 q1, .slice h2 m2 n2, .int .i64 q2, .int .i64 fl] 28) := by rw [hW1]; exact heap_new _ _ rfl
  have hbb : Below W0.heap.size W0 W1 := by
    have := hb1.size
    exact Below.trans' (hb1.mono (by omega)) hb2 (by omega)
  have HQ := Lib.hid fun w' (hb : Below W1.heap.size W1 w') => (by
    have b0 : w'.heap[w1.heap.size]? = _ := (hb.block _ (by omega)).trans k2
    simp [World.cell?, b0] :
    w'.cell? ⟨w1.heap.size, 0, none⟩ = some (.slice ra rn rc) ∧ w'.cell? ⟨w1.heap.size, 1, none⟩ = some (.slice h0 m0 n0) ∧ w'.cell? ⟨w1.heap.size, 2, none⟩ = some (.int .i64 q0) ∧ w'.cell? ⟨w1.heap.size, 3, none⟩ = some (.slice h1 m1 n1) ∧ w'.cell? ⟨w1.heap.size, 4, none⟩ = some (.int .i64 q1) ∧ w'.cell? ⟨w1.heap.size, 5, none⟩ = some (.slice h2 m2 n2) ∧ w'.cell? ⟨w1.heap.size, 6, none⟩ = some (.int .i64 q2) ∧ w'.cell? ⟨w1.heap.size, 7, none⟩ = some (.int .i64 fl))
  have HB2 := Lib.hid hb2
  rw [← hW1]
  clear hW1 k2 hform x0 x1 x2 x3 x4 x5 x6 x7
  obtain ⟨x0, x1, x2, x3, x4, x5, x6, x7⟩ := HX.out _ hbb
  go_upto_region 3 with (go_at_call 26; (with_reducible refine (HM.out _ (HB.out _ hbb)).mono ?_); rintro e w3 ⟨hb3, v3, rfl, ho3⟩; obtain ⟨s3, c3, rfl⟩ := ho3.isSlice)
  have hb03 : Below W0.heap.size W0 w3 := Below.trans' hbb hb3 hbb.size
  have hbw3 := HB.out _ hb03
  have hEN := ho3.at hRl
  have HEN := Lib.hid hEN
  have HB3 := Lib.hid hb3
  clear ho3 hEN hb3 x0 x1 x2 x3 x4 x5 x6 x7
  obtain ⟨x0, x1, x2, x3, x4, x5, x6, x7⟩ := HX.out _ hb03
  obtain ⟨y0, y1, y2, y3, y4, y5, y6, y7⟩ := HQ.out _ HB3.out
  rcases HFM.out with ⟨f1, ⟨rfl, rfl, rfl⟩, ⟨rfl, rfl, rfl, rfl⟩, ⟨rfl, rfl, rfl, rfl⟩, ⟨rfl, rfl, rfl, rfl⟩, rfl, f2⟩ | ⟨rfl, f1, b', f2, f3, f4, f5, f6⟩
  · have HK := Lib.hid (keptZ_any w3)
    rcases f2 with f2 | ⟨f2, rfl, f3⟩
    · obtain rfl : E2 = F := f2.trans HF.out
      have d1 : (E2 != 0) = true := by simp [f1]
      have d2 : (E2 == E2) = true := by simp
      clear f2
      go_wp2_with (go_at_call 23; (with_reducible refine HK.out.mono ?_); rintro e w4 ⟨rfl, hb4⟩)
      go_ret
      exact ⟨ret_bool (by simp), Below.trans' hbw3 hb4 hbw3.size⟩
    · obtain rfl : F = 0 := HF.out.symm.trans f2
      have hRL : 2900 < R.length := by rw [← HR.out]; unfold expR; rw [if_pos f2]; exact f3
      have d3 : decide ((2900 : Int) < (R.length : Int)) = true := by simp; omega
      clear f2 f3 f1
      go_wp2_with (go_at_call 23; (with_reducible refine HK.out.mono ?_); rintro e w4 ⟨rfl, hb4⟩)
      go_ret
      exact ⟨ret_bool (by simp), Below.trans' hbw3 hb4 hbw3.size⟩
  · obtain rfl : F = 0 := HF.out.symm.trans f1
    have hRL : R = expL b time := by rw [← HR.out]; unfold expR; rw [if_pos f1]
    have HIS := Lib.hid (baseIs_any (fl := time) ((f2.below HB2.out).below HB3.out) (by rw [f3]; exact HST.out) (HSN.out _ hb03) HEN.out)
    have heq : decide (expL b time = R) = true := by simp [hRL]
    rw [baseIs_eq f5 f4 f3 f6, heq] at HIS
    clear f1 f2 f3 f4 f5 f6 hRL heq
    go_wp2_with (go_at_call 24; (with_reducible refine HIS.out.mono ?_); rintro e w4 ⟨rfl, hb4⟩)
    go_ret
    exact ⟨ret_bool (by simp), Below.trans' hbw3 hb4 hbw3.size⟩
end Go.Proofs.YtijcaejdgicbmaaDoor
