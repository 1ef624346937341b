/- Slices of entries and of ints, compared element by element: sameEntries (of the laws, of the reference), sameInts. -/
import Derived.Test.YtijcaejdgicbmaaDoorRO
import Derived.Test.YtijcaejdgicbmaaDoorKG
namespace Go.Proofs.YtijcaejdgicbmaaDoor
open Go.RowKit

/-- The cells of element k, in a later world. -/
theorem ent_cells {w wr : World} {b off k : Nat} {xs : List Ent} (hb : Below w.heap.size w wr) (hbb : b < w.heap.size)
    (h : ∀ i x, xs[i]? = some x → ∀ j u, (enEnt x)[j]? = some u → w.cell? ⟨b, off + i * 7 + j, none⟩ = some u) (hk : k < xs.length) :
    wr.cell? ⟨b, off + k * 7, none⟩ = some (.int .i64 xs[k].key) ∧ wr.cell? ⟨b, off + k * 7 + 1, none⟩ = some (.int .i64 xs[k].is.c) ∧ wr.cell? ⟨b, off + k * 7 + 2, none⟩ = some (.int .i64 xs[k].is.s) ∧
    wr.cell? ⟨b, off + k * 7 + 3, none⟩ = some (.int .i64 xs[k].is.mi) ∧ wr.cell? ⟨b, off + k * 7 + 4, none⟩ = some (.int .i64 xs[k].is.ma) ∧ wr.cell? ⟨b, off + k * 7 + 5, none⟩ = some (.int .i64 xs[k].is.t) ∧
    wr.cell? ⟨b, off + k * 7 + 6, none⟩ = some (.int .i64 xs[k].is.l) := by
  have g : ∀ j u, (enEnt xs[k])[j]? = some u → wr.cell? ⟨b, off + k * 7 + j, none⟩ = some u := fun j u hu =>
    (hb.cell (p := ⟨b, _, none⟩) hbb).trans (h k xs[k] (by simp [hk]) j u hu)
  exact ⟨by simpa using g 0 _ rfl, g 1 _ rfl, g 2 _ rfl, g 3 _ rfl, g 4 _ rfl, g 5 _ rfl, g 6 _ rfl⟩
theorem int_cell {w wr : World} {b off k : Nat} {xs : List Int} (hb : Below w.heap.size w wr) (hbb : b < w.heap.size)
    (h : ∀ i x, xs[i]? = some x → ∀ j u, (enInt x)[j]? = some u → w.cell? ⟨b, off + i * 1 + j, none⟩ = some u) (hk : k < xs.length) :
    wr.cell? ⟨b, off + k, none⟩ = some (.int .i64 xs[k]) := by
  have := (hb.cell (p := ⟨b, _, none⟩) hbb).trans (h k xs[k] (by simp [hk]) 0 _ rfl)
  simpa using this

theorem take_eq_step {α : Type} {xs ys : List α} {k : Nat} (h : xs.take k = ys.take k) (hx : k < xs.length) (hy : k < ys.length) (he : xs[k] = ys[k]) : xs.take (k + 1) = ys.take (k + 1) := by
  rw [List.take_succ_eq_append_getElem hx, List.take_succ_eq_append_getElem hy, h, he]
theorem ne_of_get {α : Type} {xs ys : List α} {k : Nat} (hx : k < xs.length) (hy : k < ys.length) (he : xs[k] ≠ ys[k]) : xs ≠ ys := by
  intro h; subst h; exact he rfl

set_option maxHeartbeats 1000000 in
theorem lawSameEntries_any {va vb : Value} {xs ys : List Ent} {w : World} (ha : EntsAt w va xs) (hb : EntsAt w vb ys) :
    Calls Tryd.prog 81 #[va, vb] w fun e w' => e = .returned (.bool (decide (xs = ys))) ∧ Below w.heap.size w w' := by
  obtain ⟨ao, ca, rfl, a1, a2, a3, a4, a5⟩ := ha
  obtain ⟨bo, cb, rfl, b1, b2, b3, b4, b5⟩ := hb
  by_cases hl : xs.length = ys.length
  · have hl' : ((xs.length : Int) != (ys.length : Int)) = false := by simp [hl]
    go_enter Tryd.func81, Tryd.ntmps81
    go_wp2_with fail
    go_loopg [5] xs.length (fun g i wr => ∃ k : Nat, k ≤ xs.length ∧ g = xs.length - k ∧ i = .int .i64 k ∧ Hid (xs.take k = ys.take k) ∧ Below w.heap.size w wr)
    case atStart => exact ⟨0, Nat.zero_le _, rfl, rfl, Lib.hid (by simp), Below.refl _ _⟩
    case round =>
      obtain ⟨k, hk, rfl, rfl, HE, hbw⟩ := hrel
      by_cases hlt : k < xs.length
      · obtain ⟨ab, aoff, rfl, abb, ac⟩ := a5 (by omega)
        obtain ⟨bb, boff, rfl, bbb, bc⟩ := b5 (by omega)
        have hlt2 : k < ys.length := by omega
        obtain ⟨c0, c1, c2, c3, c4, c5, c6⟩ := ent_cells hbw abb ac hlt
        obtain ⟨d0, d1, d2, d3, d4, d5, d6⟩ := ent_cells hbw bbb bc hlt2
        clear ac bc a5 b5
        obtain ⟨e, he⟩ : ∃ e, xs[k] = e := ⟨_, rfl⟩
        obtain ⟨f, hf⟩ : ∃ f, ys[k] = f := ⟨_, rfl⟩
        rw [he] at c0 c1 c2 c3 c4 c5 c6
        rw [hf] at d0 d1 d2 d3 d4 d5 d6
        have EE := Lib.hid he
        have FF := Lib.hid hf
        have HL := Lib.hid hl
        clear he hf hl
        have hne := run_neq_ent e f
        by_cases hef : e = f
        · have hef' : (decide (e = f)) = true := by simp [hef]
          have HEF := Lib.hid hef
          clear hef
          go_wp2
          go_quiet (fail)
          go_wp2
          go_roundg (xs.length - (k + 1))
          case measure => omega
          case rel => exact ⟨k + 1, by omega, rfl, by go_num, Lib.hid (take_eq_step HE.out hlt hlt2 (by rw [EE.out, FF.out, HEF.out])), (by repeat (first | exact Below.refl _ _ | assumption | refine below_dn ?_ _ | refine Below.drew ?_ | refine Below.alloc ?_ (by simp <;> omega) _ | refine Below.setCell ?_ (by simp <;> omega) _))⟩
        · have hef' : (decide (e = f)) = false := by simp [hef]
          have hxy : decide (xs = ys) = false := by simpa using ne_of_get hlt hlt2 (by rw [EE.out, FF.out]; exact hef)
          clear hef
          go_wp2
          go_quiet (fail)
          go_wp2
          go_ret
          exact ⟨ret_bool hxy.symm, (by repeat (first | exact Below.refl _ _ | assumption | refine below_dn ?_ _ | refine Below.drew ?_ | refine Below.alloc ?_ (by simp <;> omega) _ | refine Below.setCell ?_ (by simp <;> omega) _))⟩
      · have hxy : decide (xs = ys) = true := by
          have h1 := HE.out
          rw [List.take_of_length_le (by omega), List.take_of_length_le (by omega)] at h1
          simpa using h1
        have HL := Lib.hid hl
        clear hl
        go_wp2
        go_ret
        exact ⟨ret_bool hxy.symm, (by repeat (first | exact Below.refl _ _ | assumption | refine below_dn ?_ _ | refine Below.drew ?_ | refine Below.alloc ?_ (by simp <;> omega) _ | refine Below.setCell ?_ (by simp <;> omega) _))⟩
  · have hl' : ((xs.length : Int) != (ys.length : Int)) = true := by simp; omega
    have hxy : decide (xs = ys) = false := by simp; intro h; subst h; exact hl rfl
    clear hl
    go_enter Tryd.func81, Tryd.ntmps81
    go_wp2_with fail
    go_ret
    exact ⟨ret_bool hxy.symm, (by repeat (first | exact Below.refl _ _ | assumption | refine below_dn ?_ _ | refine Below.drew ?_ | refine Below.alloc ?_ (by simp <;> omega) _ | refine Below.setCell ?_ (by simp <;> omega) _))⟩

set_option maxHeartbeats 1000000 in
theorem refSameEntries_any {va vb : Value} {xs ys : List Ent} {w : World} (ha : EntsAt w va xs) (hb : EntsAt w vb ys) :
    Calls Tryd.prog 39 #[va, vb] w fun e w' => e = .returned (.bool (decide (xs = ys))) ∧ Below w.heap.size w w' := by
  obtain ⟨ao, ca, rfl, a1, a2, a3, a4, a5⟩ := ha
  obtain ⟨bo, cb, rfl, b1, b2, b3, b4, b5⟩ := hb
  by_cases hl : xs.length = ys.length
  · have hl' : ((xs.length : Int) != (ys.length : Int)) = false := by simp [hl]
    go_enter Tryd.func39, Tryd.ntmps39
    go_wp2_with fail
    go_loopg [5] xs.length (fun g i wr => ∃ k : Nat, k ≤ xs.length ∧ g = xs.length - k ∧ i = .int .i64 k ∧ Hid (xs.take k = ys.take k) ∧ Below w.heap.size w wr)
    case atStart => exact ⟨0, Nat.zero_le _, rfl, rfl, Lib.hid (by simp), Below.refl _ _⟩
    case round =>
      obtain ⟨k, hk, rfl, rfl, HE, hbw⟩ := hrel
      by_cases hlt : k < xs.length
      · obtain ⟨ab, aoff, rfl, abb, ac⟩ := a5 (by omega)
        obtain ⟨bb, boff, rfl, bbb, bc⟩ := b5 (by omega)
        have hlt2 : k < ys.length := by omega
        obtain ⟨c0, c1, c2, c3, c4, c5, c6⟩ := ent_cells hbw abb ac hlt
        obtain ⟨d0, d1, d2, d3, d4, d5, d6⟩ := ent_cells hbw bbb bc hlt2
        clear ac bc a5 b5
        obtain ⟨e, he⟩ : ∃ e, xs[k] = e := ⟨_, rfl⟩
        obtain ⟨f, hf⟩ : ∃ f, ys[k] = f := ⟨_, rfl⟩
        rw [he] at c0 c1 c2 c3 c4 c5 c6
        rw [hf] at d0 d1 d2 d3 d4 d5 d6
        have EE := Lib.hid he
        have FF := Lib.hid hf
        have HL := Lib.hid hl
        clear he hf hl
        have hne := run_neq_ent e f
        by_cases hef : e = f
        · have hef' : (decide (e = f)) = true := by simp [hef]
          have HEF := Lib.hid hef
          clear hef
          go_wp2
          go_quiet (fail)
          go_wp2
          go_roundg (xs.length - (k + 1))
          case measure => omega
          case rel => exact ⟨k + 1, by omega, rfl, by go_num, Lib.hid (take_eq_step HE.out hlt hlt2 (by rw [EE.out, FF.out, HEF.out])), (by repeat (first | exact Below.refl _ _ | assumption | refine below_dn ?_ _ | refine Below.drew ?_ | refine Below.alloc ?_ (by simp <;> omega) _ | refine Below.setCell ?_ (by simp <;> omega) _))⟩
        · have hef' : (decide (e = f)) = false := by simp [hef]
          have hxy : decide (xs = ys) = false := by simpa using ne_of_get hlt hlt2 (by rw [EE.out, FF.out]; exact hef)
          clear hef
          go_wp2
          go_quiet (fail)
          go_wp2
          go_ret
          exact ⟨ret_bool hxy.symm, (by repeat (first | exact Below.refl _ _ | assumption | refine below_dn ?_ _ | refine Below.drew ?_ | refine Below.alloc ?_ (by simp <;> omega) _ | refine Below.setCell ?_ (by simp <;> omega) _))⟩
      · have hxy : decide (xs = ys) = true := by
          have h1 := HE.out
          rw [List.take_of_length_le (by omega), List.take_of_length_le (by omega)] at h1
          simpa using h1
        have HL := Lib.hid hl
        clear hl
        go_wp2
        go_ret
        exact ⟨ret_bool hxy.symm, (by repeat (first | exact Below.refl _ _ | assumption | refine below_dn ?_ _ | refine Below.drew ?_ | refine Below.alloc ?_ (by simp <;> omega) _ | refine Below.setCell ?_ (by simp <;> omega) _))⟩
  · have hl' : ((xs.length : Int) != (ys.length : Int)) = true := by simp; omega
    have hxy : decide (xs = ys) = false := by simp; intro h; subst h; exact hl rfl
    clear hl
    go_enter Tryd.func39, Tryd.ntmps39
    go_wp2_with fail
    go_ret
    exact ⟨ret_bool hxy.symm, (by repeat (first | exact Below.refl _ _ | assumption | refine below_dn ?_ _ | refine Below.drew ?_ | refine Below.alloc ?_ (by simp <;> omega) _ | refine Below.setCell ?_ (by simp <;> omega) _))⟩

set_option maxHeartbeats 1000000 in
theorem lawSameInts_any {va vb : Value} {xs ys : List Int} {w : World} (ha : IntsAt w va xs) (hb : IntsAt w vb ys) :
    Calls Tryd.prog 82 #[va, vb] w fun e w' => e = .returned (.bool (decide (xs = ys))) ∧ Below w.heap.size w w' := by
  obtain ⟨ao, ca, rfl, a1, a2, a3, a4, a5⟩ := ha
  obtain ⟨bo, cb, rfl, b1, b2, b3, b4, b5⟩ := hb
  by_cases hl : xs.length = ys.length
  · have hl' : ((xs.length : Int) != (ys.length : Int)) = false := by simp [hl]
    go_enter Tryd.func82, Tryd.ntmps82
    go_wp2_with fail
    go_loopg [5] xs.length (fun g i wr => ∃ k : Nat, k ≤ xs.length ∧ g = xs.length - k ∧ i = .int .i64 k ∧ Hid (xs.take k = ys.take k) ∧ Below w.heap.size w wr)
    case atStart => exact ⟨0, Nat.zero_le _, rfl, rfl, Lib.hid (by simp), Below.refl _ _⟩
    case round =>
      obtain ⟨k, hk, rfl, rfl, HE, hbw⟩ := hrel
      by_cases hlt : k < xs.length
      · obtain ⟨ab, aoff, rfl, abb, ac⟩ := a5 (by omega)
        obtain ⟨bb, boff, rfl, bbb, bc⟩ := b5 (by omega)
        have hlt2 : k < ys.length := by omega
        obtain c0 := int_cell hbw abb ac hlt
        obtain d0 := int_cell hbw bbb bc hlt2
        clear ac bc a5 b5
        obtain ⟨e, he⟩ : ∃ e, xs[k] = e := ⟨_, rfl⟩
        obtain ⟨f, hf⟩ : ∃ f, ys[k] = f := ⟨_, rfl⟩
        rw [he] at c0
        rw [hf] at d0
        have EE := Lib.hid he
        have FF := Lib.hid hf
        have HL := Lib.hid hl
        clear he hf hl
        have hne : True := trivial
        by_cases hef : e = f
        · have hef' : (e != f) = !true := by simp [hef]
          have HEF := Lib.hid hef
          clear hef
          go_wp2
          go_quiet (fail)
          go_wp2
          go_roundg (xs.length - (k + 1))
          case measure => omega
          case rel => exact ⟨k + 1, by omega, rfl, by go_num, Lib.hid (take_eq_step HE.out hlt hlt2 (by rw [EE.out, FF.out, HEF.out])), (by repeat (first | exact Below.refl _ _ | assumption | refine below_dn ?_ _ | refine Below.drew ?_ | refine Below.alloc ?_ (by simp <;> omega) _ | refine Below.setCell ?_ (by simp <;> omega) _))⟩
        · have hef' : (e != f) = !false := by simp [hef]
          have hxy : decide (xs = ys) = false := by simpa using ne_of_get hlt hlt2 (by rw [EE.out, FF.out]; exact hef)
          clear hef
          go_wp2
          go_quiet (fail)
          go_wp2
          go_ret
          exact ⟨ret_bool hxy.symm, (by repeat (first | exact Below.refl _ _ | assumption | refine below_dn ?_ _ | refine Below.drew ?_ | refine Below.alloc ?_ (by simp <;> omega) _ | refine Below.setCell ?_ (by simp <;> omega) _))⟩
      · have hxy : decide (xs = ys) = true := by
          have h1 := HE.out
          rw [List.take_of_length_le (by omega), List.take_of_length_le (by omega)] at h1
          simpa using h1
        have HL := Lib.hid hl
        clear hl
        go_wp2
        go_ret
        exact ⟨ret_bool hxy.symm, (by repeat (first | exact Below.refl _ _ | assumption | refine below_dn ?_ _ | refine Below.drew ?_ | refine Below.alloc ?_ (by simp <;> omega) _ | refine Below.setCell ?_ (by simp <;> omega) _))⟩
  · have hl' : ((xs.length : Int) != (ys.length : Int)) = true := by simp; omega
    have hxy : decide (xs = ys) = false := by simp; intro h; subst h; exact hl rfl
    clear hl
    go_enter Tryd.func82, Tryd.ntmps82
    go_wp2_with fail
    go_ret
    exact ⟨ret_bool hxy.symm, (by repeat (first | exact Below.refl _ _ | assumption | refine below_dn ?_ _ | refine Below.drew ?_ | refine Below.alloc ?_ (by simp <;> omega) _ | refine Below.setCell ?_ (by simp <;> omega) _))⟩

end Go.Proofs.YtijcaejdgicbmaaDoor
