/- The walks of slices.BinarySearch of ints, slices.BinarySearchFunc of entries, tree.at and tree.kid. -/
import Derived.Test.YtmpknhefkhjfpaaPA
import Derived.Test.YtmpknhefkhjfpaaWith
import Derived.BigQuiet
import Derived.Deep.QuietTactic
namespace Go.Proofs.Ytmpknhefkhjfpaa
open Go.RowKit

theorem mid_int {lo hi : Nat} : ((lo : Int) + (hi : Int)) / 2 = (((lo + hi) / 2 : Nat) : Int) := by omega

set_option maxRecDepth 100000 in
set_option maxHeartbeats 1000000 in
theorem search_any {v : Value} {zs : List Int} {x : Int} {w : World} (ha : IntsAt w v zs) (hs : zs.Pairwise (· < ·)) :
    Calls Try.prog 60 #[v, .int .i64 x] w fun e w' => e = .returned (.tuple #[.int .i64 (posI zs x), .bool (decide (x ∈ zs))]) ∧ Below w.heap.size w w' := by
  have hlen := ha.len (by decide)
  obtain ⟨ao, ca, rfl, -, -, -, -, a5⟩ := ha
  have S := Lib.hid fun a b (ha : a < zs.length) (hb : b < zs.length) (h : a ≤ b) => (show zs[a] ≤ zs[b] from by
    by_cases hab : a = b
    · subst hab; exact Int.le_refl _
    · exact Int.le_of_lt (List.pairwise_iff_getElem.1 hs a b ha hb (by omega)))
  have HS := Lib.hid hs
  have HC := Lib.hid fun w' (hb : Below w.heap.size w w') t (ht : t < zs.length) => (by
    obtain ⟨b, off, rfl, hbb, hc⟩ := a5 (by omega)
    exact ⟨b, off, rfl, int_cell hb hbb hc ht⟩ : ∃ b off, ao = some ⟨b, off, none⟩ ∧ w'.cell? ⟨b, off + t, none⟩ = some (.int .i64 zs[t]))
  clear hs a5
  go_enter Try.func60, Try.ntmps60
  go_wp2_with fail
  go_loopg [7, 8] zs.length (fun g s7 s8 wr => ∃ lo hi : Nat, s7 = .int .i64 lo ∧ s8 = .int .i64 hi ∧ lo ≤ hi ∧ hi ≤ zs.length ∧ hi - lo ≤ g ∧ Below w.heap.size w wr ∧ Hid ((∀ t (ht : t < zs.length), t < lo → zs[t] < x) ∧ (∀ t (ht : t < zs.length), hi ≤ t → x ≤ zs[t])))
  case atStart => exact ⟨0, zs.length, rfl, rfl, Nat.zero_le _, Nat.le_refl _, by omega, Below.refl _ _, Lib.hid ⟨fun t _ ht => absurd ht (Nat.not_lt_zero _), fun t h1 h2 => by omega⟩⟩
  case round =>
    obtain ⟨lo, hi, rfl, rfl, hlh, hin, hg, hbw, I⟩ := hrel
    by_cases hlt : lo < hi
    · obtain ⟨m, hm⟩ : ∃ m, m = (lo + hi) / 2 := ⟨_, rfl⟩
      have hmi : ((lo : Int) + (hi : Int)) / 2 = ((m : Nat) : Int) := by rw [hm]; exact mid_int
      have hml : lo ≤ m ∧ m < hi := by omega
      have hmz : m < zs.length := by omega
      obtain ⟨b, off, rfl, cm⟩ := HC.out _ hbw m hmz
      obtain ⟨y, hy⟩ : ∃ y, zs[m] = y := ⟨_, rfl⟩
      rw [hy] at cm
      have Y := Lib.hid hy
      clear hy hm
      by_cases hyx : y < x
      · go_wp2
        go_roundg (hi - (m + 1))
        case measure => omega
        case rel =>
          refine ⟨m + 1, hi, by go_num, rfl, by omega, hin, Nat.le_refl _, hbw, Lib.hid ⟨fun t ht htm => ?_, I.out.2⟩⟩
          have := S.out t m ht hmz (by omega)
          rw [Y.out] at this
          omega
      · go_wp2
        go_roundg (m - lo)
        case measure => omega
        case rel =>
          refine ⟨lo, m, rfl, rfl, by omega, by omega, Nat.le_refl _, hbw, Lib.hid ⟨I.out.1, fun t ht htm => ?_⟩⟩
          have := S.out m t hmz ht (by omega)
          rw [Y.out] at this
          omega
    · obtain rfl : hi = lo := by omega
      have E1 := Lib.hid (posI_eq hin I.out.1 I.out.2)
      have E2 := Lib.hid (hasI_eq HS.out I.out.1 I.out.2)
      by_cases hn : hi < zs.length
      · obtain ⟨b, off, rfl, cm⟩ := HC.out _ hbw hi hn
        rw [dif_pos hn] at E2
        obtain ⟨y, hy⟩ : ∃ y, zs[hi] = y := ⟨_, rfl⟩
        rw [hy] at cm E2
        clear hy
        by_cases hyx : y = x
        · have hd : (y == x) = true := by simp [hyx]
          rw [decide_eq_true hyx] at E2
          go_wp2
          go_ret2
          rw [E1.out, E2.out]
          exact ⟨rfl, hbw⟩
        · have hd : (y == x) = false := by simp [hyx]
          rw [decide_eq_false hyx] at E2
          go_wp2
          go_ret2
          rw [E1.out, E2.out]
          exact ⟨rfl, hbw⟩
      · rw [dif_neg hn] at E2
        go_wp2
        go_ret2
        rw [E1.out, E2.out]
        exact ⟨rfl, hbw⟩
end Go.Proofs.Ytmpknhefkhjfpaa
