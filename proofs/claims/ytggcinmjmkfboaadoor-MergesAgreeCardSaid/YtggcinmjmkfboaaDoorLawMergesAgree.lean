/- The law MergesAgree. -/
import Derived.Test.YtggcinmjmkfboaaDoorKB
import Derived.Test.YtggcinmjmkfboaaDoorTells
namespace Go.Proofs.YtggcinmjmkfboaaDoor
open Go.RowKit

set_option maxRecDepth 100000 in
set_option maxHeartbeats 4000000 in
theorem mergesAgree_any {k1 a1 b1 c1 k2 a2 b2 c2 k3 a3 b3 c3 : Int} {w : World} (ha1 : I64 a1) (hb1 : I64 b1) (hc1 : I64 c1) (ha2 : I64 a2) (hb2 : I64 b2) (hc2 : I64 c2) (ha3 : I64 a3) (hb3 : I64 b3) (hc3 : I64 c3) (hsz : SizesAt w) :
    Calls Tryd.prog 3 #[.agg #[.int .i64 k1, .int .i64 a1, .int .i64 b1, .int .i64 c1], .agg #[.int .i64 k2, .int .i64 a2, .int .i64 b2, .int .i64 c2], .agg #[.int .i64 k3, .int .i64 a3, .int .i64 b3, .int .i64 c3]] w fun e w' => e = .returned (.bool true) ∧ Below w.heap.size w w' := by
  obtain ⟨W0, hW0⟩ : ∃ W0, W0 = ((w.alloc (.cells #[.int .i64 k1, .int .i64 a1, .int .i64 b1, .int .i64 c1] 23)).alloc (.cells #[.int .i64 k2, .int .i64 a2, .int .i64 b2, .int .i64 c2] 23)).alloc (.cells #[.int .i64 k3, .int .i64 a3, .int .i64 b3, .int .i64 c3] 23) := ⟨_, rfl⟩
  have HB := Lib.hid (show Below w.heap.size w W0 by rw [hW0]; exact (by repeat (first | with_reducible exact Below.refl _ _ | with_reducible assumption | with_reducible refine below_dn ?_ _ | with_reducible refine Below.drew ?_ | with_reducible refine Below.alloc ?_ (by first | omega | (simp; done) | (simp; omega) | (simp [drew_size]; done) | (simp [drew_size]; omega)) _ | with_reducible refine Below.setCell ?_ (by first | omega | (simp; done) | (simp; omega) | (simp [drew_size]; done) | (simp [drew_size]; omega)) _)))
  have R1 := Lib.hid (show RawAt W0 w.heap.size k1 a1 b1 c1 by refine ⟨?_⟩; rw [hW0, Below.heap_alloc _ _ _ (by simp; omega), Below.heap_alloc _ _ _ (by simp)]; exact heap_new _ _ rfl)
  have R2 := Lib.hid (show RawAt W0 (w.heap.size + 1) k2 a2 b2 c2 by refine ⟨?_⟩; rw [hW0, Below.heap_alloc _ _ _ (by simp)]; exact heap_new _ _ (by simp))
  have R3 := Lib.hid (show RawAt W0 (w.heap.size + 2) k3 a3 b3 c3 by refine ⟨?_⟩; rw [hW0]; exact heap_new _ _ (by simp))
  have HT := Lib.hid (tells_any (hsz.below HB.out))
  have HI := Lib.hid (And.intro (And.intro ha1 (And.intro hb1 hc1)) (And.intro (And.intro ha2 (And.intro hb2 hc2)) (And.intro ha3 (And.intro hb3 hc3))))
  clear ha1 hb1 hc1 ha2 hb2 hc2 ha3 hb3 hc3 hsz
  go_enter Tryd.func3, Tryd.ntmps3
  go_upto_region 1 with (fail)
  rw [← hW0]
  clear hW0
  go_upto_region 3 with (go_at_call 13; (with_reducible refine HT.out.mono ?_); rintro e w1 ⟨rfl, hd1⟩)
  replace R1 := Lib.hid (R1.out.later hd1)
  replace R2 := Lib.hid (R2.out.later hd1)
  replace R3 := Lib.hid (R3.out.later hd1)
  replace HB := Lib.hid (Below.trans' HB.out hd1 HB.out.size)
  clear hd1
  obtain ⟨u0, u1, u2, u3⟩ := R1.out.cells
  have HC := Lib.hid (rollup_lit (k := k1) (w := w1) HI.out.1.1 HI.out.1.2.1 HI.out.1.2.2)
  go_upto_region 4 with (go_at_call 14; (with_reducible refine HC.out.mono ?_); rintro e w2 ⟨⟨x, rfl, q1, q2, q3⟩, hd⟩)
  obtain ⟨W2, hW⟩ : ∃ W', W' = w2.alloc (.cells #[.int .i64 x.c, .int .i64 x.s, .int .i64 x.mi, .int .i64 x.ma, .int .i64 x.t, .int .i64 x.l] 26) := ⟨_, rfl⟩
  have hd2 : Below w1.heap.size w1 W2 := Below.trans' hd (by rw [hW]; exact (Below.refl _ _).alloc (Nat.le_refl _) _ : Below w2.heap.size w2 W2) hd.size
  replace R1 := Lib.hid (R1.out.later hd2)
  replace R2 := Lib.hid (R2.out.later hd2)
  replace R3 := Lib.hid (R3.out.later hd2)
  replace HB := Lib.hid (Below.trans' HB.out hd2 HB.out.size)
  have X := Lib.hid (show BoxAt W2 w2.heap.size x by rw [hW]; exact BoxAt.new _ _)
  rw [← hW]
  clear hW hd hd2 HC u0 u1 u2 u3
  have FX := Lib.hid (And.intro q1 (And.intro q2 q3))
  clear q1 q2 q3
  obtain ⟨u0, u1, u2, u3⟩ := R2.out.cells
  have HC := Lib.hid (rollup_lit (k := k2) (w := W2) HI.out.2.1.1 HI.out.2.1.2.1 HI.out.2.1.2.2)
  go_upto_region 5 with (go_at_call 14; (with_reducible refine HC.out.mono ?_); rintro e w3 ⟨⟨y, rfl, q1, q2, q3⟩, hd⟩)
  obtain ⟨W3, hW⟩ : ∃ W', W' = w3.alloc (.cells #[.int .i64 y.c, .int .i64 y.s, .int .i64 y.mi, .int .i64 y.ma, .int .i64 y.t, .int .i64 y.l] 26) := ⟨_, rfl⟩
  have hd2 : Below W2.heap.size W2 W3 := Below.trans' hd (by rw [hW]; exact (Below.refl _ _).alloc (Nat.le_refl _) _ : Below w3.heap.size w3 W3) hd.size
  replace R1 := Lib.hid (R1.out.later hd2)
  replace R2 := Lib.hid (R2.out.later hd2)
  replace R3 := Lib.hid (R3.out.later hd2)
  replace X := Lib.hid (X.out.later hd2)
  replace HB := Lib.hid (Below.trans' HB.out hd2 HB.out.size)
  have Y := Lib.hid (show BoxAt W3 w3.heap.size y by rw [hW]; exact BoxAt.new _ _)
  rw [← hW]
  clear hW hd hd2 HC u0 u1 u2 u3
  have FY := Lib.hid (And.intro q1 (And.intro q2 q3))
  clear q1 q2 q3
  obtain ⟨u0, u1, u2, u3⟩ := R3.out.cells
  have HC := Lib.hid (rollup_lit (k := k3) (w := W3) HI.out.2.2.1 HI.out.2.2.2.1 HI.out.2.2.2.2)
  go_upto_region 6 with (go_at_call 14; (with_reducible refine HC.out.mono ?_); rintro e w4 ⟨⟨z, rfl, q1, q2, q3⟩, hd⟩)
  obtain ⟨W4, hW⟩ : ∃ W', W' = w4.alloc (.cells #[.int .i64 z.c, .int .i64 z.s, .int .i64 z.mi, .int .i64 z.ma, .int .i64 z.t, .int .i64 z.l] 26) := ⟨_, rfl⟩
  have hd2 : Below W3.heap.size W3 W4 := Below.trans' hd (by rw [hW]; exact (Below.refl _ _).alloc (Nat.le_refl _) _ : Below w4.heap.size w4 W4) hd.size
  replace R1 := Lib.hid (R1.out.later hd2)
  replace R2 := Lib.hid (R2.out.later hd2)
  replace R3 := Lib.hid (R3.out.later hd2)
  replace X := Lib.hid (X.out.later hd2)
  replace Y := Lib.hid (Y.out.later hd2)
  replace HB := Lib.hid (Below.trans' HB.out hd2 HB.out.size)
  have Z := Lib.hid (show BoxAt W4 w4.heap.size z by rw [hW]; exact BoxAt.new _ _)
  rw [← hW]
  clear hW hd hd2 HC u0 u1 u2 u3
  have FZ := Lib.hid (And.intro q1 (And.intro q2 q3))
  clear q1 q2 q3
  obtain ⟨u0, u1, u2, u3, u4, u5⟩ := X.out.cells
  obtain ⟨t0, t1, t2, t3, t4, t5⟩ := Y.out.cells
  have HC := Lib.hid (merge_lit (w := W4) FX.out.1 FY.out.1 (by have h1 := FX.out.2; have h2 := FY.out.2; have h3 := FZ.out.2; omega))
  go_upto_region 7 with (go_at_call 15; (with_reducible refine HC.out.mono ?_); rintro e w5 ⟨⟨xy, q0, rfl, q1, q2⟩, hd⟩; have FXY := Lib.hid (And.intro q1 (And.intro q2 q0)); clear q0 q1 q2)
  obtain ⟨W5, hW⟩ : ∃ W', W' = w5.alloc (.cells #[.int .i64 xy.c, .int .i64 xy.s, .int .i64 xy.mi, .int .i64 xy.ma, .int .i64 xy.t, .int .i64 xy.l] 26) := ⟨_, rfl⟩
  have hd2 : Below W4.heap.size W4 W5 := Below.trans' hd (by rw [hW]; exact (Below.refl _ _).alloc (Nat.le_refl _) _ : Below w5.heap.size w5 W5) hd.size
  replace R1 := Lib.hid (R1.out.later hd2)
  replace R2 := Lib.hid (R2.out.later hd2)
  replace R3 := Lib.hid (R3.out.later hd2)
  replace X := Lib.hid (X.out.later hd2)
  replace Y := Lib.hid (Y.out.later hd2)
  replace Z := Lib.hid (Z.out.later hd2)
  replace HB := Lib.hid (Below.trans' HB.out hd2 HB.out.size)
  have XY := Lib.hid (show BoxAt W5 w5.heap.size xy by rw [hW]; exact BoxAt.new _ _)
  rw [← hW]
  clear hW hd hd2 HC u0 u1 u2 u3 u4 u5 t0 t1 t2 t3 t4 t5
  obtain ⟨u0, u1, u2, u3, u4, u5⟩ := Y.out.cells
  obtain ⟨t0, t1, t2, t3, t4, t5⟩ := X.out.cells
  have HC := Lib.hid (merge_lit (w := W5) FY.out.1 FX.out.1 (by have h1 := FX.out.2; have h2 := FY.out.2; have h3 := FZ.out.2; omega))
  go_upto_region 8 with (go_at_call 15; (with_reducible refine HC.out.mono ?_); rintro e w6 ⟨⟨yx, q0, rfl, q1, q2⟩, hd⟩; have FYX := Lib.hid (And.intro q1 (And.intro q2 q0)); clear q0 q1 q2)
  obtain ⟨W6, hW⟩ : ∃ W', W' = w6.alloc (.cells #[.int .i64 yx.c, .int .i64 yx.s, .int .i64 yx.mi, .int .i64 yx.ma, .int .i64 yx.t, .int .i64 yx.l] 26) := ⟨_, rfl⟩
  have hd2 : Below W5.heap.size W5 W6 := Below.trans' hd (by rw [hW]; exact (Below.refl _ _).alloc (Nat.le_refl _) _ : Below w6.heap.size w6 W6) hd.size
  replace R1 := Lib.hid (R1.out.later hd2)
  replace R2 := Lib.hid (R2.out.later hd2)
  replace R3 := Lib.hid (R3.out.later hd2)
  replace X := Lib.hid (X.out.later hd2)
  replace Y := Lib.hid (Y.out.later hd2)
  replace Z := Lib.hid (Z.out.later hd2)
  replace XY := Lib.hid (XY.out.later hd2)
  replace HB := Lib.hid (Below.trans' HB.out hd2 HB.out.size)
  have YX := Lib.hid (show BoxAt W6 w6.heap.size yx by rw [hW]; exact BoxAt.new _ _)
  rw [← hW]
  clear hW hd hd2 HC u0 u1 u2 u3 u4 u5 t0 t1 t2 t3 t4 t5
  obtain ⟨u0, u1, u2, u3, u4, u5⟩ := XY.out.cells
  obtain ⟨t0, t1, t2, t3, t4, t5⟩ := Z.out.cells
  have HC := Lib.hid (merge_lit (w := W6) FXY.out.1 FZ.out.1 (by have h1 := FX.out.2; have h2 := FY.out.2; have h3 := FZ.out.2; have h4 := FXY.out.2.1; omega))
  go_upto_region 9 with (go_at_call 15; (with_reducible refine HC.out.mono ?_); rintro e w7 ⟨⟨va, q0, rfl, q1, q2⟩, hd⟩; have FA := Lib.hid (And.intro q1 (And.intro q2 q0)); clear q0 q1 q2)
  obtain ⟨W7, hW⟩ : ∃ W', W' = w7.alloc (.cells #[.int .i64 va.c, .int .i64 va.s, .int .i64 va.mi, .int .i64 va.ma, .int .i64 va.t, .int .i64 va.l] 26) := ⟨_, rfl⟩
  have hd2 : Below W6.heap.size W6 W7 := Below.trans' hd (by rw [hW]; exact (Below.refl _ _).alloc (Nat.le_refl _) _ : Below w7.heap.size w7 W7) hd.size
  replace R1 := Lib.hid (R1.out.later hd2)
  replace R2 := Lib.hid (R2.out.later hd2)
  replace R3 := Lib.hid (R3.out.later hd2)
  replace X := Lib.hid (X.out.later hd2)
  replace Y := Lib.hid (Y.out.later hd2)
  replace Z := Lib.hid (Z.out.later hd2)
  replace XY := Lib.hid (XY.out.later hd2)
  replace YX := Lib.hid (YX.out.later hd2)
  replace HB := Lib.hid (Below.trans' HB.out hd2 HB.out.size)
  have A := Lib.hid (show BoxAt W7 w7.heap.size va by rw [hW]; exact BoxAt.new _ _)
  rw [← hW]
  clear hW hd hd2 HC u0 u1 u2 u3 u4 u5 t0 t1 t2 t3 t4 t5
  obtain ⟨u0, u1, u2, u3, u4, u5⟩ := Y.out.cells
  obtain ⟨t0, t1, t2, t3, t4, t5⟩ := Z.out.cells
  have HC := Lib.hid (merge_lit (w := W7) FY.out.1 FZ.out.1 (by have h1 := FX.out.2; have h2 := FY.out.2; have h3 := FZ.out.2; omega))
  go_upto_region 10 with (go_at_call 15; (with_reducible refine HC.out.mono ?_); rintro e w8 ⟨⟨yz, q0, rfl, q1, q2⟩, hd⟩; have FYZ := Lib.hid (And.intro q1 (And.intro q2 q0)); clear q0 q1 q2)
  obtain ⟨W8, hW⟩ : ∃ W', W' = w8.alloc (.cells #[.int .i64 yz.c, .int .i64 yz.s, .int .i64 yz.mi, .int .i64 yz.ma, .int .i64 yz.t, .int .i64 yz.l] 26) := ⟨_, rfl⟩
  have hd2 : Below W7.heap.size W7 W8 := Below.trans' hd (by rw [hW]; exact (Below.refl _ _).alloc (Nat.le_refl _) _ : Below w8.heap.size w8 W8) hd.size
  replace R1 := Lib.hid (R1.out.later hd2)
  replace R2 := Lib.hid (R2.out.later hd2)
  replace R3 := Lib.hid (R3.out.later hd2)
  replace X := Lib.hid (X.out.later hd2)
  replace Y := Lib.hid (Y.out.later hd2)
  replace Z := Lib.hid (Z.out.later hd2)
  replace XY := Lib.hid (XY.out.later hd2)
  replace YX := Lib.hid (YX.out.later hd2)
  replace A := Lib.hid (A.out.later hd2)
  replace HB := Lib.hid (Below.trans' HB.out hd2 HB.out.size)
  have YZ := Lib.hid (show BoxAt W8 w8.heap.size yz by rw [hW]; exact BoxAt.new _ _)
  rw [← hW]
  clear hW hd hd2 HC u0 u1 u2 u3 u4 u5 t0 t1 t2 t3 t4 t5
  obtain ⟨u0, u1, u2, u3, u4, u5⟩ := X.out.cells
  obtain ⟨t0, t1, t2, t3, t4, t5⟩ := YZ.out.cells
  have HC := Lib.hid (merge_lit (w := W8) FX.out.1 FYZ.out.1 (by have h1 := FX.out.2; have h2 := FY.out.2; have h3 := FZ.out.2; have h4 := FYZ.out.2.1; omega))
  go_upto_region 11 with (go_at_call 15; (with_reducible refine HC.out.mono ?_); rintro e w9 ⟨⟨vb, q0, rfl, q1, q2⟩, hd⟩; have FB := Lib.hid (And.intro q1 (And.intro q2 q0)); clear q0 q1 q2)
  obtain ⟨W9, hW⟩ : ∃ W', W' = w9.alloc (.cells #[.int .i64 vb.c, .int .i64 vb.s, .int .i64 vb.mi, .int .i64 vb.ma, .int .i64 vb.t, .int .i64 vb.l] 26) := ⟨_, rfl⟩
  have hd2 : Below W8.heap.size W8 W9 := Below.trans' hd (by rw [hW]; exact (Below.refl _ _).alloc (Nat.le_refl _) _ : Below w9.heap.size w9 W9) hd.size
  replace R1 := Lib.hid (R1.out.later hd2)
  replace R2 := Lib.hid (R2.out.later hd2)
  replace R3 := Lib.hid (R3.out.later hd2)
  replace X := Lib.hid (X.out.later hd2)
  replace Y := Lib.hid (Y.out.later hd2)
  replace Z := Lib.hid (Z.out.later hd2)
  replace XY := Lib.hid (XY.out.later hd2)
  replace YX := Lib.hid (YX.out.later hd2)
  replace A := Lib.hid (A.out.later hd2)
  replace YZ := Lib.hid (YZ.out.later hd2)
  replace HB := Lib.hid (Below.trans' HB.out hd2 HB.out.size)
  have B := Lib.hid (show BoxAt W9 w9.heap.size vb by rw [hW]; exact BoxAt.new _ _)
  rw [← hW]
  clear hW hd hd2 HC u0 u1 u2 u3 u4 u5 t0 t1 t2 t3 t4 t5
  obtain ⟨u0, u1, u2, u3, u4, u5⟩ := X.out.cells
  have HC := Lib.hid (merge_zero (w := W9) FX.out.1)
  go_upto_region 12 with (go_at_call 15; (with_reducible refine HC.out.mono ?_); rintro e w10 ⟨rfl, hd⟩)
  obtain ⟨W10, hW⟩ : ∃ W', W' = w10.alloc (.cells #[.int .i64 x.c, .int .i64 x.s, .int .i64 x.mi, .int .i64 x.ma, .int .i64 x.t, .int .i64 x.l] 26) := ⟨_, rfl⟩
  have hd2 : Below W9.heap.size W9 W10 := Below.trans' hd (by rw [hW]; exact (Below.refl _ _).alloc (Nat.le_refl _) _ : Below w10.heap.size w10 W10) hd.size
  replace R1 := Lib.hid (R1.out.later hd2)
  replace R2 := Lib.hid (R2.out.later hd2)
  replace R3 := Lib.hid (R3.out.later hd2)
  replace X := Lib.hid (X.out.later hd2)
  replace Y := Lib.hid (Y.out.later hd2)
  replace Z := Lib.hid (Z.out.later hd2)
  replace XY := Lib.hid (XY.out.later hd2)
  replace YX := Lib.hid (YX.out.later hd2)
  replace A := Lib.hid (A.out.later hd2)
  replace YZ := Lib.hid (YZ.out.later hd2)
  replace B := Lib.hid (B.out.later hd2)
  replace HB := Lib.hid (Below.trans' HB.out hd2 HB.out.size)
  have X0 := Lib.hid (show BoxAt W10 w10.heap.size x by rw [hW]; exact BoxAt.new _ _)
  rw [← hW]
  clear hW hd hd2 HC u0 u1 u2 u3 u4 u5
  have hgx : x.Fine := .inr (good_check FX.out.1 (by have := FX.out.2; omega)).1
  have hgy : y.Fine := .inr (good_check FY.out.1 (by have := FY.out.2; omega)).1
  have hgz : z.Fine := .inr (good_check FZ.out.1 (by have := FZ.out.2; omega)).1
  obtain rfl : yx = xy := by rw [FYX.out.2.2, FXY.out.2.2]; exact join_comm hgy hgx
  obtain rfl : vb = va := by rw [FB.out.2.2, FA.out.2.2, FYZ.out.2.2, FXY.out.2.2]; exact (join_assoc hgx hgy hgz).symm
  have HCK := Lib.hid (check_below (r := vb) (Below.refl W10.heap.size W10))
  rw [FA.out.1] at HCK
  obtain ⟨a0, a1', a2', a3', a4, a5⟩ := XY.out.cells
  obtain ⟨b0, b1', b2', b3', b4, b5⟩ := YX.out.cells
  obtain ⟨c0, c1', c2', c3', c4, c5⟩ := A.out.cells
  obtain ⟨d0, d1, d2, d3, d4, d5⟩ := B.out.cells
  obtain ⟨e0, e1, e2, e3, e4, e5⟩ := X0.out.cells
  obtain ⟨f0, f1, f2, f3, f4, f5⟩ := X.out.cells
  clear hgx hgy hgz
  go_wp2_with (go_at_call 16; (with_reducible refine HCK.out.mono ?_); rintro e w ⟨rfl, hd⟩)
  go_ret
  exact ⟨ret_bool (by simp), Below.trans' HB.out hd HB.out.size⟩
end Go.Proofs.YtggcinmjmkfboaaDoor
