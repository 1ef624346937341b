/- Texts of mine that come as one: Search SearchE. -/
import Derived.Test.YtalnnghnipoogaaDoorPA
import Derived.Test.YtalnnghnipoogaaDoorWith
import Derived.BigQuiet
import Derived.Deep.QuietTactic
/- The walks of slices.BinarySearch of ints, slices.BinarySearchFunc of entries, tree.at and tree.kid. -/
namespace Go.Proofs.YtalnnghnipoogaaDoor
open Go.RowKit

theorem mid_int {lo hi : Nat} : ((lo : Int) + (hi : Int)) / 2 = (((lo + hi) / 2 : Nat) : Int) := by omega

set_option maxRecDepth 100000 in
set_option maxHeartbeats 1000000 in
theorem search_any {v : Value} {zs : List Int} {x : Int} {w : World} (ha : IntsAt w v zs) (hs : zs.Pairwise (· < ·)) :
    Calls Tryd.prog 105 #[v, .int .i64 x] w fun e w' => e = .returned (.tuple #[.int .i64 (posI zs x), .bool (decide (x ∈ zs))]) ∧ Below w.heap.size w w' := by
  have hlen := ha.len (by decide)
  obtain ⟨ao, ca, rfl, -, -, -, -, a5⟩ := ha
  have S := Lib.hid fun a b (ha : a < zs.length) (hb : b < zs.length) (h : a ≤ b) => (show zs[a] ≤ zs[b] from by
    by_cases hab : a = b
    · subst hab; exact Int.le_refl _
    · exact Int.le_of_lt (List.pairwise_iff_getElem.1 hs a b ha hb (by omega)))
  have HS := Lib.hid hs
  have HC := Lib.hid fun w' (hb : Below w.heap.size w w') t (ht : t < zs.length) => (by
    obtain ⟨b, off, rfl, hbb, hc⟩ := a5 (by omega)
    exact ⟨b, off, rfl, int_cell hb hbb hc ht⟩ : ∃ b off, ao = some ⟨b, off, none⟩ ∧ w'.cell? ⟨b, off + t, none⟩ = some (.int .i64 zs[t]))
  clear hs a5
  go_enter Tryd.func105, Tryd.ntmps105
  go_wp2_with fail
  go_loopg [7, 8] zs.length (fun g s7 s8 wr => ∃ lo hi : Nat, s7 = .int .i64 lo ∧ s8 = .int .i64 hi ∧ lo ≤ hi ∧ hi ≤ zs.length ∧ hi - lo ≤ g ∧ Below w.heap.size w wr ∧ Hid ((∀ t (ht : t < zs.length), t < lo → zs[t] < x) ∧ (∀ t (ht : t < zs.length), hi ≤ t → x ≤ zs[t])))
  case atStart => exact ⟨0, zs.length, rfl, rfl, Nat.zero_le _, Nat.le_refl _, by omega, Below.refl _ _, Lib.hid ⟨fun t _ ht => absurd ht (Nat.not_lt_zero _), fun t h1 h2 => by omega⟩⟩
  case round =>
    obtain ⟨lo, hi, rfl, rfl, hlh, hin, hg, hbw, I⟩ := hrel
    by_cases hlt : lo < hi
    · obtain ⟨m, hm⟩ : ∃ m, m = (lo + hi) / 2 := ⟨_, rfl⟩
      have hmi : ((lo : Int) + (hi : Int)) / 2 = ((m : Nat) : Int) := by rw [hm]; exact mid_int
      have hml : lo ≤ m ∧ m < hi := by omega
      have hmz : m < zs.length := by omega
      obtain ⟨b, off, rfl, cm⟩ := HC.out _ hbw m hmz
      obtain ⟨y, hy⟩ : ∃ y, zs[m] = y := ⟨_, rfl⟩
      rw [hy] at cm
      have Y := Lib.hid hy
      clear hy hm
      by_cases hyx : y < x
      · go_wp2
        go_roundg (hi - (m + 1))
        case measure => omega
        case rel =>
          refine ⟨m + 1, hi, by go_num, rfl, by omega, hin, Nat.le_refl _, hbw, Lib.hid ⟨fun t ht htm => ?_, I.out.2⟩⟩
          have := S.out t m ht hmz (by omega)
          rw [Y.out] at this
          omega
      · go_wp2
        go_roundg (m - lo)
        case measure => omega
        case rel =>
          refine ⟨lo, m, rfl, rfl, by omega, by omega, Nat.le_refl _, hbw, Lib.hid ⟨I.out.1, fun t ht htm => ?_⟩⟩
          have := S.out m t hmz ht (by omega)
          rw [Y.out] at this
          omega
    · obtain rfl : hi = lo := by omega
      have E1 := Lib.hid (posI_eq hin I.out.1 I.out.2)
      have E2 := Lib.hid (hasI_eq HS.out I.out.1 I.out.2)
      by_cases hn : hi < zs.length
      · obtain ⟨b, off, rfl, cm⟩ := HC.out _ hbw hi hn
        rw [dif_pos hn] at E2
        obtain ⟨y, hy⟩ : ∃ y, zs[hi] = y := ⟨_, rfl⟩
        rw [hy] at cm E2
        clear hy
        by_cases hyx : y = x
        · have hd : (y == x) = true := by simp [hyx]
          rw [decide_eq_true hyx] at E2
          go_wp2
          go_ret2
          rw [E1.out, E2.out]
          exact ⟨rfl, hbw⟩
        · have hd : (y == x) = false := by simp [hyx]
          rw [decide_eq_false hyx] at E2
          go_wp2
          go_ret2
          rw [E1.out, E2.out]
          exact ⟨rfl, hbw⟩
      · rw [dif_neg hn] at E2
        go_wp2
        go_ret2
        rw [E1.out, E2.out]
        exact ⟨rfl, hbw⟩
end Go.Proofs.YtalnnghnipoogaaDoor

/- The walks of slices.BinarySearchFunc of entries, tree.at and tree.kid. -/
namespace Go.Proofs.YtalnnghnipoogaaDoor
open Go.RowKit

set_option maxRecDepth 100000 in
theorem atKey_any {e : Ent} {x : Int} {w : World} (h1 : -9223372036854775808 ≤ e.key - x) (h2 : e.key - x ≤ 9223372036854775807) :
    Calls Tryd.prog 104 #[.agg #[.int .i64 e.key, .int .i64 e.is.c, .int .i64 e.is.s, .int .i64 e.is.mi, .int .i64 e.is.ma, .int .i64 e.is.t, .int .i64 e.is.l], .int .i64 x] w fun r w' => r = .returned (.int .i64 (e.key - x)) ∧ Below w.heap.size w w' := by
  have hw : IntKind.i64.wrap (e.key - x) = e.key - x := IntWalk.i64_in _ (by omega)
  go_enter Tryd.func104, Tryd.ntmps104
  go_wp2
  go_ret
  exact ⟨rfl, belowAuto⟩

set_option maxRecDepth 100000 in
set_option maxHeartbeats 1000000 in
theorem searchE_any {v : Value} {es : List Ent} {x : Int} {w : World} (ha : EntsAt w v es) (hs : Rising es) (hb : ∀ e ∈ es, -9223372036854775808 ≤ e.key - x ∧ e.key - x ≤ 9223372036854775807) :
    Calls Tryd.prog 103 #[v, .int .i64 x, .func (.func 104) #[] #[]] w fun r w' => r = .returned (.tuple #[.int .i64 (posE es x), .bool (hasE es x)]) ∧ Below w.heap.size w w' := by
  have hlen := ha.len (by decide)
  obtain ⟨ao, ca, rfl, -, -, -, -, a5⟩ := ha
  have S := Lib.hid fun a b (ha : a < es.length) (hb : b < es.length) (h : a ≤ b) => (show es[a].key ≤ es[b].key from by
    by_cases hab : a = b
    · subst hab; exact Int.le_refl _
    · exact Int.le_of_lt (List.pairwise_iff_getElem.1 hs a b ha hb (by omega)))
  have HS := Lib.hid hs
  have HC := Lib.hid fun w' (hb : Below w.heap.size w w') t (ht : t < es.length) => (by
    obtain ⟨b, off, rfl, hbb, hc⟩ := a5 (by omega)
    exact ⟨b, off, rfl, hbb, ent_cells hb hbb hc ht⟩ : ∃ b off, ao = some ⟨b, off, none⟩ ∧ b < w.heap.size ∧ w'.cell? ⟨b, off + t * 7, none⟩ = some (.int .i64 es[t].key) ∧ w'.cell? ⟨b, off + t * 7 + 1, none⟩ = some (.int .i64 es[t].is.c) ∧ w'.cell? ⟨b, off + t * 7 + 2, none⟩ = some (.int .i64 es[t].is.s) ∧ w'.cell? ⟨b, off + t * 7 + 3, none⟩ = some (.int .i64 es[t].is.mi) ∧ w'.cell? ⟨b, off + t * 7 + 4, none⟩ = some (.int .i64 es[t].is.ma) ∧ w'.cell? ⟨b, off + t * 7 + 5, none⟩ = some (.int .i64 es[t].is.t) ∧ w'.cell? ⟨b, off + t * 7 + 6, none⟩ = some (.int .i64 es[t].is.l))
  have HK := Lib.hid fun t (ht : t < es.length) w' => atKey_any (e := es[t]) (x := x) (w := w') (hb _ (List.getElem_mem ht)).1 (hb _ (List.getElem_mem ht)).2
  clear hs a5 hb
  go_enter Tryd.func103, Tryd.ntmps103
  go_wp2_with fail
  go_loopg [9, 10] es.length (fun g s7 s8 wr => ∃ lo hi : Nat, s7 = .int .i64 lo ∧ s8 = .int .i64 hi ∧ lo ≤ hi ∧ hi ≤ es.length ∧ hi - lo ≤ g ∧ Below w.heap.size w wr ∧ Hid ((∀ t (ht : t < es.length), t < lo → es[t].key < x) ∧ (∀ t (ht : t < es.length), hi ≤ t → x ≤ es[t].key)))
  case atStart => exact ⟨0, es.length, rfl, rfl, Nat.zero_le _, Nat.le_refl _, by omega, Below.refl _ _, Lib.hid ⟨fun t _ ht => absurd ht (Nat.not_lt_zero _), fun t h1 h2 => by omega⟩⟩
  case round =>
    obtain ⟨lo, hi, rfl, rfl, hlh, hin, hg, hbw, I⟩ := hrel
    have hbz := hbw.size
    by_cases hlt : lo < hi
    · obtain ⟨m, hm⟩ : ∃ m, m = (lo + hi) / 2 := ⟨_, rfl⟩
      have hmi : ((lo : Int) + (hi : Int)) / 2 = ((m : Nat) : Int) := by rw [hm]; exact mid_int
      have hml : lo ≤ m ∧ m < hi := by omega
      have hmz : m < es.length := by omega
      obtain ⟨b, off, rfl, hbb, c0, c1, c2, c3, c4, c5, c6⟩ := HC.out _ hbw m hmz
      have HA := Lib.hid fun w' => HK.out m hmz w'
      obtain ⟨y, hy⟩ : ∃ y, es[m] = y := ⟨_, rfl⟩
      rw [hy] at c0 c1 c2 c3 c4 c5 c6 HA
      have Y := Lib.hid hy
      clear hy hm
      by_cases hyx : y.key < x
      · have hd : decide (y.key - x < 0) = true := by simp; omega
        go_wp2_with ((go_at_call 104; (with_reducible refine (HA.out _).mono ?_); rintro r w1 ⟨rfl, hb1⟩))
        go_roundg (hi - (m + 1))
        case measure => omega
        case rel =>
          refine ⟨m + 1, hi, by go_num, rfl, by omega, hin, Nat.le_refl _, Below.trans' hbw hb1 hbw.size, Lib.hid ⟨fun t ht htm => ?_, I.out.2⟩⟩
          have := S.out t m ht hmz (by omega)
          rw [Y.out] at this
          omega
      · have hd : decide (y.key - x < 0) = false := by simp; omega
        go_wp2_with ((go_at_call 104; (with_reducible refine (HA.out _).mono ?_); rintro r w1 ⟨rfl, hb1⟩))
        go_roundg (m - lo)
        case measure => omega
        case rel =>
          refine ⟨lo, m, rfl, rfl, by omega, by omega, Nat.le_refl _, Below.trans' hbw hb1 hbw.size, Lib.hid ⟨I.out.1, fun t ht htm => ?_⟩⟩
          have := S.out m t hmz ht (by omega)
          rw [Y.out] at this
          omega
    · obtain rfl : hi = lo := by omega
      have E1 := Lib.hid (posE_eq hin I.out.1 I.out.2)
      have E2 := Lib.hid (hasE_eq HS.out I.out.1 I.out.2)
      by_cases hn : hi < es.length
      · obtain ⟨b, off, rfl, hbb, c0, c1, c2, c3, c4, c5, c6⟩ := HC.out _ hbw hi hn
        have HA := Lib.hid fun w' => HK.out hi hn w'
        rw [dif_pos hn] at E2
        obtain ⟨y, hy⟩ : ∃ y, es[hi] = y := ⟨_, rfl⟩
        rw [hy] at c0 c1 c2 c3 c4 c5 c6 E2 HA
        clear hy
        by_cases hyx : y.key = x
        · have hd : (y.key - x == 0) = true := by simp [hyx]
          rw [decide_eq_true hyx] at E2
          clear hyx
          go_wp2_with ((go_at_call 104; (with_reducible refine (HA.out _).mono ?_); rintro r w1 ⟨rfl, hb1⟩))
          go_ret2
          rw [E1.out, E2.out]
          exact ⟨rfl, Below.trans' hbw hb1 hbw.size⟩
        · have hd : (y.key - x == 0) = false := by simp; omega
          rw [decide_eq_false hyx] at E2
          go_wp2_with ((go_at_call 104; (with_reducible refine (HA.out _).mono ?_); rintro r w1 ⟨rfl, hb1⟩))
          go_ret2
          rw [E1.out, E2.out]
          exact ⟨rfl, Below.trans' hbw hb1 hbw.size⟩
      · rw [dif_neg hn] at E2
        go_wp2
        go_ret2
        rw [E1.out, E2.out]
        exact ⟨rfl, hbw⟩

set_option maxRecDepth 100000 in
theorem at_any {v : Value} {es : List Ent} {x : Int} {w : World} (ha : EntsAt w v es) (hs : Rising es) (hb : ∀ e ∈ es, -9223372036854775808 ≤ e.key - x ∧ e.key - x ≤ 9223372036854775807) :
    Calls Tryd.prog 92 #[v, .int .i64 x] w fun r w' => r = .returned (.tuple #[.int .i64 (posE es x), .bool (hasE es x)]) ∧ Below w.heap.size w w' := by
  have HS := Lib.hid (searchE_any ha hs hb)
  obtain ⟨ao, ca, rfl⟩ := ha.isSlice
  clear ha hs hb
  go_enter Tryd.func92, Tryd.ntmps92
  go_wp2_with ((go_at_call 103; (with_reducible refine HS.out.mono ?_); rintro r w1 ⟨rfl, hb1⟩))
  go_ret2
  exact ⟨rfl, hb1⟩

set_option maxRecDepth 100000 in
theorem kid_any {lf : Bool} {ev kv dv bv : Value} {keys : List Int} {x : Int} {w : World} (ha : IntsAt w kv keys) (hs : keys.Pairwise (· < ·)) :
    Calls Tryd.prog 93 #[.agg #[.bool lf, ev, kv, dv, bv], .int .i64 x] w fun r w' => r = .returned (.int .i64 (kidIx keys x)) ∧ Below w.heap.size w w' := by
  have HS := Lib.hid fun w' (hb : Below w.heap.size w w') => search_any (x := x) (ha.below hb (Nat.le_refl _)) hs
  have HI := Lib.hid (kidIx_pos (x := x) hs)
  have hlen := ha.len (by decide)
  have hpos : posI keys x ≤ keys.length := (List.takeWhile_prefix _).length_le
  obtain ⟨ao, ca, rfl⟩ := ha.isSlice
  clear ha hs
  by_cases hm : x ∈ keys
  · have HM := Lib.hid (show decide (x ∈ keys) = true by simp [hm])
    rw [if_pos hm] at HI
    rw [HM.out] at HS
    clear hm
    go_enter Tryd.func93, Tryd.ntmps93
    go_wp2_with ((go_at_call 105; (with_reducible refine (HS.out _ belowAuto).mono ?_); rintro r w1 ⟨rfl, hb1⟩))
    go_ret
    rw [HI.out]
    exact ⟨rfl, Below.trans' belowAuto hb1 (by first | omega | (simp; done) | (simp; omega) | (simp [drew_size]; done) | (simp [drew_size]; omega))⟩
  · have HM := Lib.hid (show decide (x ∈ keys) = false by simp [hm])
    rw [if_neg hm] at HI
    rw [HM.out] at HS
    clear hm
    go_enter Tryd.func93, Tryd.ntmps93
    go_wp2_with ((go_at_call 105; (with_reducible refine (HS.out _ belowAuto).mono ?_); rintro r w1 ⟨rfl, hb1⟩))
    go_ret
    rw [HI.out]
    exact ⟨rfl, Below.trans' belowAuto hb1 (by first | omega | (simp; done) | (simp; omega) | (simp [drew_size]; done) | (simp [drew_size]; omega))⟩
end Go.Proofs.YtalnnghnipoogaaDoor
