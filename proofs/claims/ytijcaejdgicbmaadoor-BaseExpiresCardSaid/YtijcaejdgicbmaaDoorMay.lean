/- The walk of the document's look at entries: do they rise, within bounds, with something known of each? -/
import Derived.Test.YtijcaejdgicbmaaDoorEnts
import Derived.Test.YtijcaejdgicbmaaDoorPA
import Derived.Test.YtijcaejdgicbmaaDoorNG
namespace Go.Proofs.YtijcaejdgicbmaaDoor
open Go.RowKit

theorem fault_below {r : Roll} {W w : World} (hb : Below W.heap.size W w) : Calls Tryd.prog 76 #[.agg #[.int .i64 r.c, .int .i64 r.s, .int .i64 r.mi, .int .i64 r.ma, .int .i64 r.t, .int .i64 r.l]] w fun e w' => e = .returned (.int .i64 (rollCheck r)) ∧ Below W.heap.size W w' :=
  (fault_any r w).mono fun e w' ⟨h1, h2⟩ => ⟨h1, by rw [← h2]; exact hb.alloc hb.size _⟩
/-- Entry j of a slice lies at its place, however the index is spelled. -/
theorem idx_ent' {ab aoff n cap j : Nat} {i : Int} (h : i = j) (hj : j < n) (w : World) : (Instr.indexAt 50 (.slice (some ⟨ab, aoff, none⟩) n cap) (.int .i64 i)).run Tryd.prog w = .ok (.pointer (some ⟨ab, aoff + j * 7, none⟩)) w := by
  subst h
  go_simp

set_option maxRecDepth 100000 in
set_option maxHeartbeats 2000000 in
theorem may_any {v : Value} {xs : List Ent} {lo hi : Int} {w : World} (ha : EntsAt w v xs) (hhi : -9223372036854775808 < hi) (hhi2 : hi ≤ 9223372036854775807) :
    Calls Tryd.prog 100 #[v, .int .i64 lo, .int .i64 hi] w fun e w' => e = .returned (.bool (entsB xs lo hi)) ∧ Below w.heap.size w w' := by
  obtain ⟨ao, ca, rfl, a1, a2, a3, a4, a5⟩ := ha
  · have hwr : IntKind.i64.wrap (hi - 1) = hi - 1 := IntWalk.i64_in _ (by omega)
    go_enter Tryd.func100, Tryd.ntmps100
    go_wp2_with fail
    go_loopg [7] xs.length (fun g i wr => ∃ k : Nat, k ≤ xs.length ∧ g = xs.length - k ∧ i = .int .i64 k ∧ Hid (EntsOk (xs.take k) lo hi) ∧ Below w.heap.size w wr)
    case atStart => exact ⟨0, Nat.zero_le _, rfl, rfl, Lib.hid (by simpa using entsOk_nil lo hi), Below.refl _ _⟩
    case round =>
      obtain ⟨k, hk, rfl, rfl, HE, hbw⟩ := hrel
      have hbz := hbw.size
      by_cases hlt : k < xs.length
      · obtain ⟨ab, aoff, rfl, abb, ac⟩ := a5 (by omega)
        obtain ⟨c0, c1, c2, c3, c4, c5, c6⟩ := ent_cells hbw abb ac hlt
        obtain ⟨p, hp⟩ : ∃ p : Int, ∀ hk0 : 0 < k, wr.cell? ⟨ab, aoff + (k - 1) * 7, none⟩ = some (.int .i64 p) ∧ xs[k - 1].key = p := by
          by_cases hk0 : 0 < k
          · obtain ⟨q0, -⟩ := ent_cells hbw abb ac (show k - 1 < xs.length by omega)
            exact ⟨_, fun _ => ⟨q0, rfl⟩⟩
          · exact ⟨0, fun h => absurd h hk0⟩
        obtain ⟨e, he⟩ : ∃ e, xs[k] = e := ⟨_, rfl⟩
        rw [he] at c0 c1 c2 c3 c4 c5 c6
        have EE := Lib.hid he
        clear ac a5
        by_cases hok : lo ≤ e.key ∧ e.key < hi ∧ e.is.c ≠ 0 ∧ rollCheck e.is = 0
        · obtain ⟨o1, o2, o4, o5⟩ := hok
          have d1 : inR e.key lo (hi - 1) = true := inR_true.2 ⟨o1, by omega⟩
          have d5 : (e.is.c == 0) = false := by simpa using o4
          have d6 : (rollCheck e.is != 0) = false := by simp [o5]
          have HS := Lib.hid fun (h3 : ∀ hk0 : 0 < k, p < e.key) => entsOk_step hlt HE.out (by rw [he]; exact o1) (by rw [he]; exact o2) (fun h0 => by rw [he, (hp h0).2]; exact h3 h0) (by rw [he]; exact o4) (by rw [he]; exact o5)
          have HF := Lib.hid fun (h3 : ∃ hk0 : 0 < k, e.key ≤ p) => entsB_false.2 fun (h : EntsOk xs lo hi) => by
            obtain ⟨h0, h3⟩ := h3
            have := (entsOk_at h hlt).2.2.2.2 h0
            rw [he, (hp h0).2] at this; omega
          have HP := Lib.hid hp
          clear he hp o4 o5
          by_cases g3 : 0 < k
          · have d3 : decide ((0 : Int) < k) = true := by simpa using g3
            obtain ⟨q0, -⟩ := HP.out g3
            have keepP : ∀ w1, Below w.heap.size w w1 → w1.cell? ⟨ab, aoff + (k - 1) * 7, none⟩ = some (.int .i64 p) ∧ w1.cell? ⟨ab, aoff + k * 7, none⟩ = some (.int .i64 e.key) := fun w1 hb =>
              ⟨((hb.cell (p := ⟨ab, _, none⟩) abb).trans (hbw.cell (p := ⟨ab, _, none⟩) abb).symm).trans q0, ((hb.cell (p := ⟨ab, _, none⟩) abb).trans (hbw.cell (p := ⟨ab, _, none⟩) abb).symm).trans c0⟩
            have KP := Lib.hid keepP
            have hix := fun w => idx_ent' (ab := ab) (aoff := aoff) (n := xs.length) (cap := ca) (show (k : Int) - 1 = ((k - 1 : Nat) : Int) by omega) (by omega) w
            have hw1 : IntKind.i64.wrap ((k : Int) - 1) = (k : Int) - 1 := IntWalk.i64_in _ (by omega)
            clear keepP
            by_cases g4 : e.key ≤ p
            · have d4 : decide (e.key ≤ p) = true := by simpa using g4
              have hxy := HF.out ⟨g3, g4⟩
              go_wp2_with (first
              | (go_at_call 33; refine (in_any _ _ _ _).mono ?_; rintro e w' ⟨rfl, rfl⟩)
              | (go_at_call 76; refine (fault_below (W := w) (r := e.is) ?_).mono ?_; (exact (by repeat (first | exact Below.refl _ _ | assumption | refine below_dn ?_ _ | refine Below.drew ?_ | refine Below.alloc ?_ (by first | omega | (simp; done) | (simp; omega)) _ | refine Below.setCell ?_ (by first | omega | (simp; done) | (simp; omega)) _))); rintro e' w1 ⟨rfl, BE⟩; obtain ⟨q1, q2⟩ := KP.out _ BE))
              go_quiet (fail)
              go_wp2
              go_ret
              exact ⟨ret_bool hxy.symm, (by repeat (first | exact Below.refl _ _ | assumption | refine below_dn ?_ _ | refine Below.drew ?_ | refine Below.alloc ?_ (by first | omega | (simp; done) | (simp; omega)) _ | refine Below.setCell ?_ (by first | omega | (simp; done) | (simp; omega)) _))⟩
            · have d4 : decide (e.key ≤ p) = false := by simpa using g4
              have HE' := Lib.hid (HS.out fun _ => by omega)
              go_wp2_with (first
              | (go_at_call 33; refine (in_any _ _ _ _).mono ?_; rintro e w' ⟨rfl, rfl⟩)
              | (go_at_call 76; refine (fault_below (W := w) (r := e.is) ?_).mono ?_; (exact (by repeat (first | exact Below.refl _ _ | assumption | refine below_dn ?_ _ | refine Below.drew ?_ | refine Below.alloc ?_ (by first | omega | (simp; done) | (simp; omega)) _ | refine Below.setCell ?_ (by first | omega | (simp; done) | (simp; omega)) _))); rintro e' w1 ⟨rfl, BE⟩; obtain ⟨q1, q2⟩ := KP.out _ BE))
              go_quiet (fail)
              clear hix hw1
              go_wp2
              go_roundg (xs.length - (k + 1))
              case measure => omega
              case rel => exact ⟨k + 1, by omega, rfl, by go_num, HE', (by repeat (first | exact Below.refl _ _ | assumption | refine below_dn ?_ _ | refine Below.drew ?_ | refine Below.alloc ?_ (by first | omega | (simp; done) | (simp; omega)) _ | refine Below.setCell ?_ (by first | omega | (simp; done) | (simp; omega)) _))⟩
          · obtain rfl : k = 0 := by omega
            have HE' := Lib.hid (HS.out fun h => absurd h g3)
            simp only [Nat.zero_mul, Nat.add_zero] at c0 c1 c2 c3 c4 c5 c6
            clear g3
            go_wp2_with (first
              | (go_at_call 33; refine (in_any _ _ _ _).mono ?_; rintro e w' ⟨rfl, rfl⟩)
              | (go_at_call 76; refine (fault_below (W := w) (r := e.is) ?_).mono ?_; (exact (by repeat (first | exact Below.refl _ _ | assumption | refine below_dn ?_ _ | refine Below.drew ?_ | refine Below.alloc ?_ (by first | omega | (simp; done) | (simp; omega)) _ | refine Below.setCell ?_ (by first | omega | (simp; done) | (simp; omega)) _))); rintro e' w1 ⟨rfl, BE⟩))
            go_quiet (fail)
            go_wp2
            go_roundg (xs.length - (0 + 1))
            case measure => omega
            case rel => exact ⟨0 + 1, by omega, rfl, by go_num, HE', (by repeat (first | exact Below.refl _ _ | assumption | refine below_dn ?_ _ | refine Below.drew ?_ | refine Below.alloc ?_ (by first | omega | (simp; done) | (simp; omega)) _ | refine Below.setCell ?_ (by first | omega | (simp; done) | (simp; omega)) _))⟩
        · have hxy : entsB xs lo hi = false := entsB_false.2 fun h => hok (by
            have := entsOk_at h hlt
            rw [he] at this
            exact ⟨this.1, this.2.1, this.2.2.1, this.2.2.2.1⟩)
          have HNO := Lib.hid hok
          clear he hp hok
          by_cases g1 : lo ≤ e.key ∧ e.key < hi
          · have d1 : inR e.key lo (hi - 1) = true := inR_true.2 ⟨g1.1, by omega⟩
            obtain ⟨o1, o2⟩ := g1
            by_cases g2 : e.is.c = 0
            · have d5 : (e.is.c == 0) = true := by simpa using g2
              clear g2
              go_wp2_with (go_at_call 33; refine (in_any _ _ _ _).mono ?_; rintro e w' ⟨rfl, rfl⟩)
              go_ret
              exact ⟨ret_bool hxy.symm, (by repeat (first | exact Below.refl _ _ | assumption | refine below_dn ?_ _ | refine Below.drew ?_ | refine Below.alloc ?_ (by first | omega | (simp; done) | (simp; omega)) _ | refine Below.setCell ?_ (by first | omega | (simp; done) | (simp; omega)) _))⟩
            · have d5 : (e.is.c == 0) = false := by simpa using g2
              have d6 : (rollCheck e.is != 0) = true := by
                by_cases h : rollCheck e.is = 0
                · exact absurd ⟨o1, o2, g2, h⟩ HNO.out
                · simpa using h
              clear g2
              go_wp2_with (first
                | (go_at_call 33; refine (in_any _ _ _ _).mono ?_; rintro e w' ⟨rfl, rfl⟩)
                | (go_at_call 76; refine (fault_below (W := w) (r := e.is) ?_).mono ?_; (exact (by repeat (first | exact Below.refl _ _ | assumption | refine below_dn ?_ _ | refine Below.drew ?_ | refine Below.alloc ?_ (by first | omega | (simp; done) | (simp; omega)) _ | refine Below.setCell ?_ (by first | omega | (simp; done) | (simp; omega)) _))); rintro e' w1 ⟨rfl, BE⟩))
              go_ret
              exact ⟨ret_bool hxy.symm, BE⟩
          · have d1 : inR e.key lo (hi - 1) = false := inR_false.2 (by omega)
            clear g1
            go_wp2_with (go_at_call 33; refine (in_any _ _ _ _).mono ?_; rintro e w' ⟨rfl, rfl⟩)
            go_ret
            exact ⟨ret_bool hxy.symm, (by repeat (first | exact Below.refl _ _ | assumption | refine below_dn ?_ _ | refine Below.drew ?_ | refine Below.alloc ?_ (by first | omega | (simp; done) | (simp; omega)) _ | refine Below.setCell ?_ (by first | omega | (simp; done) | (simp; omega)) _))⟩
      · have hxy : entsB xs lo hi = true := entsB_true.2 (entsOk_full (by omega) HE.out)
        go_wp2
        go_ret
        exact ⟨ret_bool hxy.symm, (by repeat (first | exact Below.refl _ _ | assumption | refine below_dn ?_ _ | refine Below.drew ?_ | refine Below.alloc ?_ (by first | omega | (simp; done) | (simp; omega)) _ | refine Below.setCell ?_ (by first | omega | (simp; done) | (simp; omega)) _))⟩
end Go.Proofs.YtijcaejdgicbmaaDoor
