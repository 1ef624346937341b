/- The walk of the reference's EntriesFault. -/
import Derived.Test.YtggcinmjmkfboaaPU
import Derived.Test.YtggcinmjmkfboaaMay
namespace Go.Proofs.Ytggcinmjmkfboaa
open Go.RowKit

theorem entsE_stop {l : List Ent} {k : Nat} (h : entsE none l = entsE (lastK l k) (l.drop k)) (hk : l.length ≤ k) : entsE none l = 0 := by rw [h, List.drop_eq_nil_of_le hk]; rfl
set_option maxRecDepth 100000 in
set_option maxHeartbeats 2000000 in
theorem entriesFault_any {v : Value} {l : List Ent} {w : World} (h : EntsAt w v l) : Calls Try.prog 6 #[v] w fun e w' => e = .returned (.int .i64 (entsE none l)) ∧ Below w.heap.size w w' := by
  obtain ⟨ao, cap, rfl, a1, a2, a3, a4, a5⟩ := h
  go_enter Try.func6, Try.ntmps6
  go_wp2_with fail
  go_loopg [3] l.length (fun g i wr => ∃ k : Nat, k ≤ l.length ∧ g = l.length - k ∧ i = .int .i64 k ∧ Hid (entsE none l = entsE (lastK l k) (l.drop k)) ∧ Below w.heap.size w wr)
  case atStart => exact ⟨0, Nat.zero_le _, rfl, rfl, Lib.hid rfl, Below.refl _ _⟩
  case round =>
    obtain ⟨k, hk, rfl, rfl, HR, hbw⟩ := hrel
    have hbz := hbw.size
    by_cases hlt : k < l.length
    · obtain ⟨ab, aoff, rfl, abb, ac⟩ := a5 (by omega)
      obtain ⟨c0, c1, c2, c3, c4, c5, c6⟩ := ent_cells hbw abb ac hlt
      obtain ⟨p, hp⟩ : ∃ p : Int, ∀ hk0 : 0 < k, wr.cell? ⟨ab, aoff + (k - 1) * 7, none⟩ = some (.int .i64 p) ∧ lastK l k = some p := by
        by_cases hk0 : 0 < k
        · obtain ⟨q0, -⟩ := ent_cells hbw abb ac (show k - 1 < l.length by omega)
          refine ⟨_, fun _ => ⟨q0, ?_⟩⟩
          unfold lastK
          rw [if_neg (by omega), List.getElem?_eq_getElem (by omega)]; rfl
        · exact ⟨0, fun h => absurd h hk0⟩
      have habl : ab < wr.heap.size := by omega
      have hEA := entsE_at hlt
      obtain ⟨e, he⟩ : ∃ e, l[k] = e := ⟨_, rfl⟩
      rw [he] at c0 c1 c2 c3 c4 c5 c6 hEA
      have HEA := Lib.hid hEA
      have HP := Lib.hid fun (h : 0 < k) => (hp h).1
      have HLK := Lib.hid (show (∃ q, lastK l k = some q ∧ e.key ≤ q) ↔ 0 < k ∧ e.key ≤ p from by
        by_cases hk0 : 0 < k
        · rw [(hp hk0).2]; simp [hk0]
        · have : lastK l k = none := by unfold lastK; rw [if_pos (by omega)]
          rw [this]; simp; omega)
      have hix := fun w' => idx_ent' (ab := ab) (aoff := aoff) (n := l.length) (cap := cap) (show (k : Int) = ((k : Nat) : Int) by rfl) hlt w'
      clear ac a5 he hp hEA
      go_upto_region 4 with (fail)
      go_cut [26] (fun b wx => ∃ B : Bool, (B = true ↔ 0 < k ∧ e.key ≤ p) ∧ b = .bool B ∧ Below wr.heap.size wr wx)
      case first =>
        by_cases g3 : 0 < k
        · have d3 : decide ((0 : Int) < k) = true := by simpa using g3
          have q0 := HP.out g3
          have hix1 := fun w => idx_ent' (ab := ab) (aoff := aoff) (n := l.length) (cap := cap) (show (k : Int) - 1 = ((k - 1 : Nat) : Int) by omega) (by omega) w
          have hw1 : IntKind.i64.wrap ((k : Int) - 1) = (k : Int) - 1 := IntWalk.i64_in _ (by omega)
          obtain ⟨B, hB⟩ : ∃ B, decide (e.key ≤ p) = B := ⟨_, rfl⟩
          have HB := Lib.hid (show B = true ↔ 0 < k ∧ e.key ≤ p by rw [← hB]; simp [g3])
          go_quiet (fail)
          go_wp2
          go_meet
          exact ⟨_, HB.out, rfl, (by repeat (first | with_reducible exact Below.refl _ _ | with_reducible assumption | with_reducible refine below_dn ?_ _ | with_reducible refine Below.drew ?_ | with_reducible refine Below.alloc ?_ (by first | omega | (simp; done) | (simp; omega) | (simp [drew_size]; done) | (simp [drew_size]; omega)) _ | with_reducible refine Below.setCell ?_ (by first | omega | (simp; done) | (simp; omega) | (simp [drew_size]; done) | (simp [drew_size]; omega)) _))⟩
        · obtain rfl : k = 0 := by omega
          go_quiet (fail)
          go_wp2
          go_meet
          exact ⟨false, by simp, rfl, (by repeat (first | with_reducible exact Below.refl _ _ | with_reducible assumption | with_reducible refine below_dn ?_ _ | with_reducible refine Below.drew ?_ | with_reducible refine Below.alloc ?_ (by first | omega | (simp; done) | (simp; omega) | (simp [drew_size]; done) | (simp [drew_size]; omega)) _ | with_reducible refine Below.setCell ?_ (by first | omega | (simp; done) | (simp; omega) | (simp [drew_size]; done) | (simp [drew_size]; omega)) _))⟩
      case rest =>
        obtain ⟨B, hB, rfl, hbx⟩ := hcut
        have HLB := Lib.hid (HLK.out.trans hB.symm)
        have hcx := fun o => hbx.cell (p := ⟨ab, o, none⟩) habl
        have hwx := Below.trans' hbw hbx hbz
        have hwz := hwx.size
        rw [← hcx] at c0 c1 c2 c3 c4 c5 c6
        clear hcx HLK HP hB hbx
        cases B with
        | true =>
          go_wp2_with fail
          go_ret
          exact ⟨by rw [HR.out, HEA.out, if_pos (HLB.out.2 (by simp))]; rfl, (by repeat (first | with_reducible exact Below.refl _ _ | with_reducible assumption | with_reducible refine below_dn ?_ _ | with_reducible refine Below.drew ?_ | with_reducible refine Below.alloc ?_ (by first | omega | (simp; done) | (simp; omega) | (simp [drew_size]; done) | (simp [drew_size]; omega)) _ | with_reducible refine Below.setCell ?_ (by first | omega | (simp; done) | (simp; omega) | (simp [drew_size]; done) | (simp [drew_size]; omega)) _))⟩
        | false =>
          have HEA2 := Lib.hid (show entsE none l = if e.key < 0 ∨ 1099511627776 ≤ e.key ∨ e.is.c = 0 then 2 else if rollCheck e.is ≠ 0 then rollCheck e.is else entsE (lastK l (k + 1)) (l.drop (k + 1)) by rw [HR.out, HEA.out, if_neg fun h => by have := HLB.out.1 h; cases this])
          clear HEA HLB
          by_cases g1 : 0 ≤ e.key ∧ e.key ≤ 1099511627775
          · have d1 : inR e.key 0 1099511627775 = true := inR_true.2 g1
            by_cases g2 : e.is.c = 0
            · have d2 : (e.is.c == 0) = true := by simp [g2]
              go_wp2_with (first | (go_at_call 16; (with_reducible refine (in_any _ _ _ _).mono ?_); rintro e1 w1 ⟨rfl, rfl⟩; rw [d1]))
              go_ret
              exact ⟨by rw [HEA2.out, if_pos (by omega)]; rfl, (by repeat (first | with_reducible exact Below.refl _ _ | with_reducible assumption | with_reducible refine below_dn ?_ _ | with_reducible refine Below.drew ?_ | with_reducible refine Below.alloc ?_ (by first | omega | (simp; done) | (simp; omega) | (simp [drew_size]; done) | (simp [drew_size]; omega)) _ | with_reducible refine Below.setCell ?_ (by first | omega | (simp; done) | (simp; omega) | (simp [drew_size]; done) | (simp [drew_size]; omega)) _))⟩
            · have d2 : (e.is.c == 0) = false := by simp [g2]
              obtain ⟨F, hF⟩ : ∃ F, rollCheck e.is = F := ⟨_, rfl⟩
              rw [hF] at HEA2
              by_cases g3 : F = 0
              · have d3 : (F != 0) = false := by simp [g3]
                have HN := Lib.hid (show entsE none l = entsE (lastK l (k + 1)) (l.drop (k + 1)) by rw [HEA2.out, if_neg (by omega), if_neg (by simp [g3])])
                have HF := Lib.hid hF
                clear hF g3 HEA2
                go_wp2_with (first
                  | (go_at_call 16; (with_reducible refine (in_any _ _ _ _).mono ?_); rintro e1 w1 ⟨rfl, rfl⟩; rw [d1])
                  | (go_at_call 17; (with_reducible refine (fault_any _ _).mono ?_); rintro e1 w1 ⟨rfl, rfl⟩; rw [HF.out]))
                go_roundg (l.length - (k + 1))
                case measure => omega
                case rel => exact ⟨k + 1, by omega, rfl, by go_num, HN, (by repeat (first | with_reducible exact Below.refl _ _ | with_reducible assumption | with_reducible refine below_dn ?_ _ | with_reducible refine Below.drew ?_ | with_reducible refine Below.alloc ?_ (by first | omega | (simp; done) | (simp; omega) | (simp [drew_size]; done) | (simp [drew_size]; omega)) _ | with_reducible refine Below.setCell ?_ (by first | omega | (simp; done) | (simp; omega) | (simp [drew_size]; done) | (simp [drew_size]; omega)) _))⟩
              · have d3 : (F != 0) = true := by simp [g3]
                have HN := Lib.hid (show entsE none l = F by rw [HEA2.out, if_neg (by omega), if_pos (by simp [g3])])
                have HF := Lib.hid hF
                clear hF g3 HEA2
                go_wp2_with (first
                  | (go_at_call 16; (with_reducible refine (in_any _ _ _ _).mono ?_); rintro e1 w1 ⟨rfl, rfl⟩; rw [d1])
                  | (go_at_call 17; (with_reducible refine (fault_any _ _).mono ?_); rintro e1 w1 ⟨rfl, rfl⟩; rw [HF.out]))
                go_ret
                exact ⟨by rw [HN.out]; rfl, (by repeat (first | with_reducible exact Below.refl _ _ | with_reducible assumption | with_reducible refine below_dn ?_ _ | with_reducible refine Below.drew ?_ | with_reducible refine Below.alloc ?_ (by first | omega | (simp; done) | (simp; omega) | (simp [drew_size]; done) | (simp [drew_size]; omega)) _ | with_reducible refine Below.setCell ?_ (by first | omega | (simp; done) | (simp; omega) | (simp [drew_size]; done) | (simp [drew_size]; omega)) _))⟩
          · have d1 : inR e.key 0 1099511627775 = false := inR_false.2 (by omega)
            go_wp2_with (first | (go_at_call 16; (with_reducible refine (in_any _ _ _ _).mono ?_); rintro e1 w1 ⟨rfl, rfl⟩; rw [d1]))
            go_ret
            exact ⟨by rw [HEA2.out, if_pos (by omega)]; rfl, (by repeat (first | with_reducible exact Below.refl _ _ | with_reducible assumption | with_reducible refine below_dn ?_ _ | with_reducible refine Below.drew ?_ | with_reducible refine Below.alloc ?_ (by first | omega | (simp; done) | (simp; omega) | (simp [drew_size]; done) | (simp [drew_size]; omega)) _ | with_reducible refine Below.setCell ?_ (by first | omega | (simp; done) | (simp; omega) | (simp [drew_size]; done) | (simp [drew_size]; omega)) _))⟩
    · have HE := Lib.hid (entsE_stop HR.out (by omega))
      go_wp2
      go_ret
      exact ⟨by rw [HE.out]; rfl, hbw⟩
end Go.Proofs.Ytggcinmjmkfboaa
