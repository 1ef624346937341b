/- The walks of slices.Equal on entries, of slices.Index and slices.Contains on strings. -/
import Derived.Test.YtijcaejdgicbmaaDoorEnts
import Derived.Test.YtijcaejdgicbmaaDoorBaseMay
namespace Go.Proofs.YtijcaejdgicbmaaDoor
open Go.RowKit

set_option maxHeartbeats 1000000 in
theorem equalEnts_any {va vb : Value} {xs ys : List Ent} {w : World} (ha : EntsAt w va xs) (hb : EntsAt w vb ys) :
    Calls Tryd.prog 32 #[va, vb] w fun e w' => e = .returned (.bool (decide (xs = ys))) ∧ Below w.heap.size w w' := by
  obtain ⟨ao, ca, rfl, a1, a2, a3, a4, a5⟩ := ha
  obtain ⟨bo, cb, rfl, b1, b2, b3, b4, b5⟩ := hb
  by_cases hl : xs.length = ys.length
  · have hl' : ((xs.length : Int) != (ys.length : Int)) = false := by simp [hl]
    have HL := Lib.hid hl
    clear hl
    go_enter Tryd.func32, Tryd.ntmps32
    go_wp2_with fail
    go_loopg [13] xs.length (fun g i wr => ∃ k : Nat, k ≤ xs.length ∧ g = xs.length - k ∧ i = .int .i64 k ∧ Hid (xs.take k = ys.take k) ∧ Below w.heap.size w wr)
    case atStart => exact ⟨0, Nat.zero_le _, rfl, rfl, Lib.hid (by simp), Below.refl _ _⟩
    case round =>
      obtain ⟨k, hk, rfl, rfl, HE, hbw⟩ := hrel
      by_cases hlt : k < xs.length
      · obtain ⟨ab, aoff, rfl, abb, ac⟩ := a5 (by omega)
        obtain ⟨bb, boff, rfl, bbb, bc⟩ := b5 (by have := HL.out; omega)
        have hlt2 : k < ys.length := by have := HL.out; omega
        obtain ⟨c0, c1, c2, c3, c4, c5, c6⟩ := ent_cells hbw abb ac hlt
        obtain ⟨d0, d1, d2, d3, d4, d5, d6⟩ := ent_cells hbw bbb bc hlt2
        clear ac bc a5 b5
        obtain ⟨e, he⟩ : ∃ e, xs[k] = e := ⟨_, rfl⟩
        obtain ⟨f, hf⟩ : ∃ f, ys[k] = f := ⟨_, rfl⟩
        rw [he] at c0 c1 c2 c3 c4 c5 c6
        rw [hf] at d0 d1 d2 d3 d4 d5 d6
        have EE := Lib.hid he
        have FF := Lib.hid hf
        clear he hf
        have hne := run_neq_ent e f
        by_cases hef : e = f
        · have hef' : (decide (e = f)) = true := by simp [hef]
          have HEF := Lib.hid hef
          clear hef
          go_wp2
          go_quiet (fail)
          go_wp2
          go_roundg (xs.length - (k + 1))
          case measure => omega
          case rel => exact ⟨k + 1, by omega, rfl, by go_num, Lib.hid (take_eq_step HE.out hlt hlt2 (by rw [EE.out, FF.out, HEF.out])), (by repeat (first | exact Below.refl _ _ | assumption | refine below_dn ?_ _ | refine Below.drew ?_ | refine Below.alloc ?_ (by simp <;> omega) _ | refine Below.setCell ?_ (by simp <;> omega) _))⟩
        · have hef' : (decide (e = f)) = false := by simp [hef]
          have hxy : decide (xs = ys) = false := by simpa using ne_of_get hlt hlt2 (by rw [EE.out, FF.out]; exact hef)
          clear hef
          go_wp2
          go_quiet (fail)
          go_wp2
          go_ret
          exact ⟨ret_bool hxy.symm, (by repeat (first | exact Below.refl _ _ | assumption | refine below_dn ?_ _ | refine Below.drew ?_ | refine Below.alloc ?_ (by simp <;> omega) _ | refine Below.setCell ?_ (by simp <;> omega) _))⟩
      · have hxy : decide (xs = ys) = true := by
          have h1 := HE.out
          have h2 := HL.out
          rw [List.take_of_length_le (by omega), List.take_of_length_le (by omega)] at h1
          simpa using h1
        go_wp2
        go_ret
        exact ⟨ret_bool hxy.symm, (by repeat (first | exact Below.refl _ _ | assumption | refine below_dn ?_ _ | refine Below.drew ?_ | refine Below.alloc ?_ (by simp <;> omega) _ | refine Below.setCell ?_ (by simp <;> omega) _))⟩
  · have hl' : ((xs.length : Int) != (ys.length : Int)) = true := by simp; omega
    have hxy : decide (xs = ys) = false := by simp; intro h; subst h; exact hl rfl
    clear hl
    go_enter Tryd.func32, Tryd.ntmps32
    go_wp2_with fail
    go_ret
    exact ⟨ret_bool hxy.symm, (by repeat (first | exact Below.refl _ _ | assumption | refine below_dn ?_ _ | refine Below.drew ?_ | refine Below.alloc ?_ (by simp <;> omega) _ | refine Below.setCell ?_ (by simp <;> omega) _))⟩

/-- Where a name stands; -1: nowhere. -/
def placeI (xs : List ByteArray) (s : ByteArray) : Int := if xs.findIdx (fun x => decide (x = s)) < xs.length then ((xs.findIdx fun x => decide (x = s) : Nat) : Int) else -1
theorem place_at {xs : List ByteArray} {s : ByteArray} {k : Nat} (hk : k < xs.length) (h : xs[k] = s) (hb : ∀ j (hj : j < k) (hjn : j < xs.length), xs[j] ≠ s) : placeI xs s = k := by
  have : xs.findIdx (fun x => decide (x = s)) = k := (List.findIdx_eq hk).2 ⟨by simp [h], fun j hj => by have := hb j hj (by omega); simpa using this⟩
  unfold placeI; rw [this, if_pos hk]
theorem place_none {xs : List ByteArray} {s : ByteArray} (hb : ∀ j (hj : j < xs.length), xs[j] ≠ s) : placeI xs s = -1 := by
  have : xs.findIdx (fun x => decide (x = s)) = xs.length := List.findIdx_eq_length_of_false fun x hx => by
    obtain ⟨j, hj, rfl⟩ := List.getElem_of_mem hx
    have := hb j hj; simpa using this
  unfold placeI; rw [this, if_neg (by omega)]
theorem place_cases (xs : List ByteArray) (s : ByteArray) : (∃ (k : Nat) (hk : k < xs.length), placeI xs s = k ∧ xs[k] = s ∧ ∀ j (hj : j < k) (hjn : j < xs.length), xs[j] ≠ s) ∨ (placeI xs s = -1 ∧ ∀ j (hj : j < xs.length), xs[j] ≠ s) := by
  by_cases h : xs.findIdx (fun x => decide (x = s)) < xs.length
  · have h2 := (List.findIdx_eq (p := fun x => decide (x = s)) h).1 rfl
    have h3 : ∀ j (hj : j < xs.findIdx (fun x => decide (x = s))) (hjn : j < xs.length), xs[j] ≠ s := fun j hj hjn => by have := h2.2 j hj; simpa using this
    have h4 : xs[xs.findIdx (fun x => decide (x = s))] = s := by simpa using h2.1
    exact .inl ⟨_, h, place_at h h4 h3, h4, h3⟩
  · refine .inr ?_
    have h3 : ∀ j (hj : j < xs.length), xs[j] ≠ s := fun j hj => by
      have := List.not_of_lt_findIdx (p := fun x => decide (x = s)) (xs := xs) (i := j) (by omega)
      simpa using this
    exact ⟨place_none h3, h3⟩
theorem StrsAt.take {w : World} {sa : Option Addr} {n sc i : Nat} {xs : List ByteArray} (h : StrsAt w (.slice sa n sc) xs) (hi : i ≤ xs.length) : StrsAt w (.slice sa i sc) (xs.take i) := by
  obtain ⟨ao, cap, hv, h1, h2, h3, h4, h5⟩ := h
  injection hv with e1 e2 e3
  subst e1 e2 e3
  have hl : (xs.take i).length = i := by rw [List.length_take]; omega
  refine ⟨sa, sc, by rw [hl], by omega, h2, by omega, h4, fun h0 => ?_⟩
  obtain ⟨b, off, e, hb, hc⟩ := h5 (by omega)
  refine ⟨b, off, e, hb, fun k x hx => hc k x ?_⟩
  rw [List.getElem?_take] at hx
  split at hx
  · exact hx
  · cases hx

set_option maxRecDepth 100000 in
set_option maxHeartbeats 1000000 in
theorem indexStr_any {v : Value} {xs : List ByteArray} {s : ByteArray} {w : World} (h : StrsAt w v xs) :
    Calls Tryd.prog 58 #[v, .string s] w fun e w' => e = .returned (.int .i64 (placeI xs s)) ∧ Below w.heap.size w w' := by
  obtain ⟨ao, cap, rfl, a1, a2, a3, a4, a5⟩ := h
  go_enter Tryd.func58, Tryd.ntmps58
  go_wp2_with fail
  go_loopg [8] xs.length (fun g i wr => ∃ k : Nat, k ≤ xs.length ∧ g = xs.length - k ∧ i = .int .i64 k ∧ Hid (∀ j (hj : j < k) (hjn : j < xs.length), xs[j] ≠ s) ∧ Below w.heap.size w wr)
  case atStart => exact ⟨0, Nat.zero_le _, rfl, rfl, Lib.hid (fun j hj => by omega), Below.refl _ _⟩
  case round =>
    obtain ⟨k, hk, rfl, rfl, HN, hb⟩ := hrel
    by_cases hlt : k < xs.length
    · obtain ⟨ab, aoff, rfl, abb, ac⟩ := a5 (by omega)
      have e0 := strs_cell hb abb ac hlt
      obtain ⟨y, hy⟩ : ∃ y, xs[k] = y := ⟨_, rfl⟩
      rw [hy] at e0
      have HY := Lib.hid hy
      have hix := fun w' => idx_str (ab := ab) (aoff := aoff) (n := xs.length) (cap := cap) (show (k : Int) = ((k : Nat) : Int) by rfl) hlt w'
      have hse := str_eq s y
      clear ac a5 hy
      by_cases hsy : s = y
      · have HP := Lib.hid (place_at hlt (HY.out.trans hsy.symm) HN.out)
        have hsd : decide (s = y) = true := by simp [hsy]
        rw [hsd] at hse
        clear hsy hsd
        go_wp2
        go_ret
        rw [HP.out]
        exact ⟨rfl, hb⟩
      · have HN2 := Lib.hid (show ∀ j (hj : j < k + 1) (hjn : j < xs.length), xs[j] ≠ s from fun j hj hjn => by
          by_cases hjk : j = k
          · subst hjk; rw [HY.out]; exact fun h => hsy h.symm
          · exact HN.out j (by omega) hjn)
        have hsd : decide (s = y) = false := by simp [hsy]
        rw [hsd] at hse
        clear hsy hsd
        go_wp2
        go_roundg (xs.length - (k + 1))
        case measure => omega
        case rel => exact ⟨k + 1, by omega, rfl, by go_num, HN2, hb⟩
    · have HP := Lib.hid (place_none (xs := xs) (s := s) fun j hj => HN.out j (by omega) hj)
      go_wp2
      go_ret
      rw [HP.out]
      exact ⟨rfl, hb⟩

set_option maxRecDepth 100000 in
theorem containsStr_any {v : Value} {xs : List ByteArray} {s : ByteArray} {w : World} (h : StrsAt w v xs) :
    Calls Tryd.prog 28 #[v, .string s] w fun e w' => e = .returned (.bool (decide (0 ≤ placeI xs s))) ∧ Below w.heap.size w w' := by
  have HI := Lib.hid (indexStr_any (s := s) h)
  obtain ⟨p, hp⟩ : ∃ p, placeI xs s = p := ⟨_, rfl⟩
  rw [hp] at HI ⊢
  clear hp
  go_enter Tryd.func28, Tryd.ntmps28
  go_wp2_with ((go_at_call 58; (with_reducible refine HI.out.mono ?_); rintro e w2 ⟨rfl, hb2⟩))
  go_ret
  exact ⟨rfl, hb2⟩
end Go.Proofs.YtijcaejdgicbmaaDoor
