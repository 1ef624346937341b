/- slices.Sort on a row of three numbers. -/
import Derived.Test.YtggcinmjmkfboaaDoorKG
import Derived.RegionTactic
import Derived.BigRegion
namespace Go.Proofs.YtggcinmjmkfboaaDoor
open Go.RowKit

theorem cmpNaN_any (n : Int) (w : World) : Calls Tryd.prog 99 #[.int .i64 n] w fun e w' => e = .returned (.bool false) ∧ w' = w := by
  go_enter Tryd.func99, Tryd.ntmps99
  go_wp2
  go_ret
  exact ⟨ret_bool (by simp), rfl⟩
theorem cmpLess_any (x y : Int) (w : World) : Calls Tryd.prog 83 #[.int .i64 x, .int .i64 y] w fun e w' => e = .returned (.bool (decide (x < y))) ∧ w' = w := by
  go_enter Tryd.func83, Tryd.ntmps83
  go_wp2_with (go_at_call 99; refine (cmpNaN_any _ _).mono ?_; rintro e w' ⟨rfl, rfl⟩)
  go_ret
  exact ⟨ret_bool (by simp), rfl⟩
theorem idx3 {g cap j : Nat} (hj : j < 3) (w : World) : (Instr.indexAt 65 (.slice (some ⟨g, 0, none⟩) 3 cap) (.int .i64 (j : Int))).run Tryd.prog w = .ok (.pointer (some ⟨g, j, none⟩)) w := by
  have h3 : ¬ 3 ≤ (j : Int) := by omega
  go_simp
/-- Three numbers in a block of their own; what else there was is as it was. -/
structure Row3 (w0 : World) (g : Nat) (Q : Int → Prop) (w : World) (x y z : Int) : Prop where
  box : w.heap[g]? = some (.cells #[.int .i64 x, .int .i64 y, .int .i64 z] 3)
  qx : Q x
  qy : Q y
  qz : Q z
  below : Below g w0 w
  other : ∀ b, b ≠ g → w.heap[b]? = w0.heap[b]?
  size : w.heap.size = w0.heap.size
theorem Row3.drew {w0 : World} {g : Nat} {Q : Int → Prop} {w : World} {x y z : Int} (h : Row3 w0 g Q w x y z) : Row3 w0 g Q w.drew x y z := ⟨h.box, h.qx, h.qy, h.qz, h.below.drew, h.other, h.size⟩
theorem Row3.drewN {w0 : World} {g : Nat} {Q : Int → Prop} {w : World} {x y z : Int} (h : Row3 w0 g Q w x y z) (n : Nat) : Row3 w0 g Q (w.drewN n) x y z := ⟨h.box, h.qx, h.qy, h.qz, below_dn h.below n, h.other, h.size⟩
theorem Row3.cells {w0 : World} {g : Nat} {Q : Int → Prop} {w : World} {x y z : Int} (h : Row3 w0 g Q w x y z) : w.cell? ⟨g, 0, none⟩ = some (.int .i64 x) ∧ w.cell? ⟨g, 1, none⟩ = some (.int .i64 y) ∧ w.cell? ⟨g, 2, none⟩ = some (.int .i64 z) ∧ ∀ o, w.frozen? ⟨g, o, none⟩ = false := by
  have := h.box
  simp [World.cell?, World.frozen?, this]
theorem Row3.swap01 {w0 : World} {g : Nat} {Q : Int → Prop} {w : World} {x y z : Int} (h : Row3 w0 g Q w x y z) : Row3 w0 g Q ((w.setCell ⟨g, 1, none⟩ (.int .i64 x)).setCell ⟨g, 0, none⟩ (.int .i64 y)) y x z :=
  ⟨by have := heap_setCell_same (off := 0) (v := .int .i64 y) (heap_setCell_same (off := 1) (v := .int .i64 x) h.box); simpa using this, h.qy, h.qx, h.qz, (h.below.setCell (Nat.le_refl _) _).setCell (Nat.le_refl _) _, fun b hb => (heap_setCell_other _ ⟨g, _, none⟩ b _ hb).trans ((heap_setCell_other _ ⟨g, _, none⟩ b _ hb).trans (h.other b hb)), by simp only [heap_setCell_size]; exact h.size⟩
theorem Row3.swap12 {w0 : World} {g : Nat} {Q : Int → Prop} {w : World} {x y z : Int} (h : Row3 w0 g Q w x y z) : Row3 w0 g Q ((w.setCell ⟨g, 2, none⟩ (.int .i64 y)).setCell ⟨g, 1, none⟩ (.int .i64 z)) x z y :=
  ⟨by have := heap_setCell_same (off := 1) (v := .int .i64 z) (heap_setCell_same (off := 2) (v := .int .i64 y) h.box); simpa using this, h.qx, h.qz, h.qy, (h.below.setCell (Nat.le_refl _) _).setCell (Nat.le_refl _) _, fun b hb => (heap_setCell_other _ ⟨g, _, none⟩ b _ hb).trans ((heap_setCell_other _ ⟨g, _, none⟩ b _ hb).trans (h.other b hb)), by simp only [heap_setCell_size]; exact h.size⟩
/-- What is sorted when number m of the first k is being put in. -/
def In3 (k m : Nat) (x y z : Int) : Prop := (k = 1 → m = 0 → x ≤ y) ∧ (k = 2 → m = 2 → x ≤ y) ∧ (k = 2 → m = 1 → x ≤ z ∧ y ≤ z) ∧ (k = 2 → m = 0 → x ≤ y ∧ y ≤ z)
set_option maxRecDepth 100000 in
set_option maxHeartbeats 4000000 in
theorem ins3_any {g cap : Nat} {Q : Int → Prop} {x0 y0 z0 : Int} {w : World} (h : Row3 w g Q w x0 y0 z0) :
    Calls Tryd.prog 77 #[.slice (some ⟨g, 0, none⟩) 3 cap, .int .i64 0, .int .i64 3] w fun e w' => e = .returned (.tuple #[]) ∧ ∃ x y z, Row3 w g Q w' x y z ∧ x ≤ y ∧ y ≤ z := by
  have HI := Lib.hid h
  clear h
  go_enter Tryd.func77, Tryd.ntmps77
  go_wp2
  go_loopg [6] 2 (fun n i wr => ∃ k : Nat, 1 ≤ k ∧ k ≤ 3 ∧ n = 3 - k ∧ i = .int .i64 k ∧ Hid (∃ x y z, Row3 w g Q wr x y z ∧ (2 ≤ k → x ≤ y) ∧ (3 ≤ k → y ≤ z)))
  case atStart => exact ⟨1, by omega, by omega, rfl, rfl, Lib.hid ⟨_, _, _, HI.out, by omega, by omega⟩⟩
  case round =>
    obtain ⟨k, hk1, hk3, rfl, rfl, HR⟩ := hrel
    by_cases hlt : k < 3
    · have hlt' : (k : Int) < 3 := by omega
      go_upto_region 4 with (fail)
      go_loopg [7] k (fun n j wr' => ∃ m : Nat, m ≤ k ∧ m = n ∧ j = .int .i64 m ∧ Hid (∃ x y z, Row3 w g Q wr' x y z ∧ In3 k m x y z))
      case atStart =>
        obtain ⟨x, y, z, h1, h2, h3⟩ := HR.out
        exact ⟨k, by omega, rfl, rfl, Lib.hid ⟨x, y, z, h1, by omega, by omega, by omega, by omega⟩⟩
      case round =>
        clear HR
        obtain ⟨m, hm, rfl, rfl, HS⟩ := hrel
        obtain ⟨x, y, z, hrow, hin⟩ := HS.out
        obtain ⟨c0, c1, c2, cf⟩ := hrow.cells
        have HR := Lib.hid hrow
        have HIN := Lib.hid hin
        have i0 := fun w => idx3 (g := g) (cap := cap) (j := 0) (by omega) w
        have i1 := fun w => idx3 (g := g) (cap := cap) (j := 1) (by omega) w
        have i2 := fun w => idx3 (g := g) (cap := cap) (j := 2) (by omega) w
        simp only [Int.natCast_zero, Int.natCast_one, Int.cast_ofNat_Int] at i0 i1 i2
        clear hrow hin HS
        obtain rfl | rfl | ⟨rfl, rfl⟩ : m = 0 ∨ m = 1 ∨ (m = 2 ∧ k = 2) := by omega
        · go_upto_region 4 with (fail)
          go_quiet (fail)
          go_wp2_with fail
          go_roundg (3 - (k + 1))
          case measure => omega
          case rel =>
            have hrow := HR.out
            have hin := HIN.out
            unfold In3 at hin
            exact ⟨k + 1, by omega, by omega, rfl, by go_num, Lib.hid ⟨x, y, z, (by repeat (first | with_reducible assumption | refine Row3.drewN ?_ _ | refine Row3.drew ?_ | refine Row3.swap01 ?_ | refine Row3.swap12 ?_)), by omega, by omega⟩⟩
        · by_cases hl : y < x
          · have hd : decide (y < x) = true := decide_eq_true hl
            go_upto_region 4 with (fail)
            go_quiet (first | (go_at_call 83; refine Calls.quiet_of_same (cmpLess_any _ _ _)))
            go_wp2_with fail
            go_upto_region 6 with (fail)
            go_region
            go_wp2_with fail
            go_roundg 0
            case measure => omega
            case rel =>
              have hrow := HR.out
              have hin := HIN.out
              unfold In3 at hin
              exact ⟨0, by omega, rfl, by go_num, Lib.hid ⟨y, x, z, (by repeat (first | with_reducible assumption | refine Row3.drewN ?_ _ | refine Row3.drew ?_ | refine Row3.swap01 ?_ | refine Row3.swap12 ?_)), by unfold In3; omega⟩⟩
          · have hd : decide (y < x) = false := decide_eq_false hl
            go_upto_region 4 with (fail)
            go_quiet (first | (go_at_call 83; refine Calls.quiet_of_same (cmpLess_any _ _ _)))
            go_wp2_with fail
            go_roundg (3 - (k + 1))
            case measure => omega
            case rel =>
              have hrow := HR.out
              have hin := HIN.out
              unfold In3 at hin
              exact ⟨k + 1, by omega, by omega, rfl, by go_num, Lib.hid ⟨x, y, z, (by repeat (first | with_reducible assumption | refine Row3.drewN ?_ _ | refine Row3.drew ?_ | refine Row3.swap01 ?_ | refine Row3.swap12 ?_)), by omega, by omega⟩⟩
        · by_cases hl : z < y
          · have hd : decide (z < y) = true := decide_eq_true hl
            go_upto_region 4 with (fail)
            go_quiet (first | (go_at_call 83; refine Calls.quiet_of_same (cmpLess_any _ _ _)))
            go_wp2_with fail
            go_upto_region 6 with (fail)
            go_region
            go_wp2_with fail
            go_roundg 1
            case measure => omega
            case rel =>
              have hrow := HR.out
              have hin := HIN.out
              unfold In3 at hin
              exact ⟨1, by omega, rfl, by go_num, Lib.hid ⟨x, z, y, (by repeat (first | with_reducible assumption | refine Row3.drewN ?_ _ | refine Row3.drew ?_ | refine Row3.swap01 ?_ | refine Row3.swap12 ?_)), by unfold In3; omega⟩⟩
          · have hd : decide (z < y) = false := decide_eq_false hl
            go_upto_region 4 with (fail)
            go_quiet (first | (go_at_call 83; refine Calls.quiet_of_same (cmpLess_any _ _ _)))
            go_wp2_with fail
            go_roundg (3 - (2 + 1))
            case measure => omega
            case rel =>
              have hrow := HR.out
              have hin := HIN.out
              unfold In3 at hin
              exact ⟨2 + 1, by omega, by omega, rfl, by go_num, Lib.hid ⟨x, y, z, (by repeat (first | with_reducible assumption | refine Row3.drewN ?_ _ | refine Row3.drew ?_ | refine Row3.swap01 ?_ | refine Row3.swap12 ?_)), by omega, by omega⟩⟩
    · obtain ⟨x, y, z, h1, h2, h3⟩ := HR.out
      have hlt' : ¬ (k : Int) < 3 := by omega
      have HE := Lib.hid (show ∃ x y z, Row3 w g Q wr x y z ∧ x ≤ y ∧ y ≤ z from ⟨x, y, z, h1, by omega, by omega⟩)
      clear h1 h2 h3 HR
      go_wp2
      go_end0
      exact ⟨rfl, HE.out⟩
set_option maxRecDepth 100000 in
theorem len3_any (w : World) : Calls Tryd.prog 64 #[.int .u64 3] w fun e w' => e = .returned (.int .i64 2) ∧ w' = w := by
  have h64 : Calls Tryd.prog 87 #[.int .u64 3] w fun e w' => e = .returned (.int .i64 2) ∧ w' = w := by
    go_enter Tryd.func87, Tryd.ntmps87
    go_wp2
    go_ret
    exact ⟨by kernel_rfl, rfl⟩
  go_enter Tryd.func64, Tryd.ntmps64
  go_wp2_with (go_at_call 87; (with_reducible refine h64.mono ?_); rintro e w' ⟨rfl, rfl⟩)
  go_ret
  exact ⟨rfl, rfl⟩
set_option maxRecDepth 100000 in
set_option maxHeartbeats 4000000 in
theorem pdq3_any {g cap : Nat} {Q : Int → Prop} {x0 y0 z0 : Int} {w : World} (h : Row3 w g Q w x0 y0 z0) :
    Calls Tryd.prog 63 #[.slice (some ⟨g, 0, none⟩) 3 cap, .int .i64 0, .int .i64 3, .int .i64 2] w fun e w' => e = .returned (.tuple #[]) ∧ ∃ x y z, Row3 w g Q w' x y z ∧ x ≤ y ∧ y ≤ z := by
  have HI := Lib.hid (ins3_any (cap := cap) h)
  clear h
  go_enter Tryd.func63, Tryd.ntmps63
  go_wp2_with fail
  refine wp_loop_rounds 1 ?_
  rw [rounds_succ]
  go_wp2_with (go_at_call 77; (with_reducible refine HI.out.mono ?_); rintro e w' ⟨rfl, hx⟩)
  exact bodyPost_ret (results_none rfl _ _ _) rfl ⟨rfl, hx⟩
set_option maxRecDepth 100000 in
theorem sort3_any {g cap : Nat} {Q : Int → Prop} {x0 y0 z0 : Int} {w : World} (h : Row3 w g Q w x0 y0 z0) :
    Calls Tryd.prog 38 #[.slice (some ⟨g, 0, none⟩) 3 cap] w fun e w' => e = .returned (.tuple #[]) ∧ ∃ x y z, Row3 w g Q w' x y z ∧ x ≤ y ∧ y ≤ z := by
  have HI := Lib.hid (pdq3_any (cap := cap) h)
  clear h
  go_enter Tryd.func38, Tryd.ntmps38
  go_wp2_with (first | (go_at_call 64; (with_reducible refine (len3_any _).mono ?_); rintro e w' ⟨rfl, rfl⟩) | (go_at_call 63; (with_reducible refine HI.out.mono ?_); rintro e w' ⟨rfl, hx⟩))
  go_end0
  exact ⟨rfl, hx⟩
end Go.Proofs.YtggcinmjmkfboaaDoor
