/- The law TreeOfs. -/
import Derived.Test.YtggcinmjmkfboaaOG
import Derived.Test.YtggcinmjmkfboaaEntsF
import Derived.Test.YtggcinmjmkfboaaKnows
namespace Go.Proofs.Ytggcinmjmkfboaa
open Go.RowKit

theorem made_knowsB {l : List Ent} {t : Tr} (h : Made l t) : knowsB t l = true := by
  have := h.knows
  unfold allT at this
  rw [if_pos h.1] at this
  simp [knowsB, h.1, this]
set_option maxRecDepth 100000 in
set_option maxHeartbeats 2000000 in
theorem treeOfs_any {v : Value} {l : List Ent} {w : World} (h : EntsAt w v l) : Calls Try.prog 3 #[v] w fun e w' => e = .returned (.bool true) ∧ Below w.heap.size w w' := by
  obtain ⟨ao, cap, rfl, a1, a2, a3, a4, a5⟩ := id h
  obtain ⟨i0, z, hi, hz, hz1, hz2, hz3⟩ := info_some Try.iEnt
  have hown0 : w.ownsRow w.heap.size 48 7 (.slice none 0 0) 0 [] := World.ownsRow_nil _ _ _ _
  cases ao with
  | none =>
    have h0 : l.length = 0 := by have := a4 rfl; omega
    obtain rfl := List.eq_nil_of_length_eq_zero h0
    obtain rfl : cap = 0 := a4 rfl
    clear a4 a5
    simp only [List.length_nil] at h ⊢
    have HOF := Lib.hid fun (W : World) (v' : Value) (hb : Below w.heap.size w W) (ho : EntsAt W v' ([] : List Ent)) => treeOf_form ho
    have HEF := Lib.hid fun (W : World) (hb : Below w.heap.size w W) => entriesFault_any (h.below hb (Nat.le_refl _))
    have HKN := Lib.hid fun (W : World) (hb : Below w.heap.size w W) (t : Tr) (tv : Value) (ht : TreeAt W tv t) => knows_any ht (h.below hb (Nat.le_refl _))
    go_enter Try.func3, Try.ntmps3
    go_upto_region 2 with (go_at_call 5; (with_reducible refine (HOF.out _ _ (Below.refl _ _) (SlAt.nil _ _ _ _)).mono ?_); rintro x w1 ⟨hb1, so, n1, c1, rt, E2, rfl, hof⟩)
    have hbw1 := hb1
    obtain ⟨W2, hW2⟩ : ∃ W2, W2 = w1.alloc (.cells #[.slice so n1 c1, .int .i64 rt] 25) := ⟨_, rfl⟩
    have hb2 : Below w1.heap.size w1 W2 := by rw [hW2]; exact (by repeat (first | with_reducible exact Below.refl _ _ | with_reducible assumption | with_reducible refine below_dn ?_ _ | with_reducible refine Below.drew ?_ | with_reducible refine Below.alloc ?_ (by first | omega | (simp; done) | (simp; omega) | (simp [drew_size]; done) | (simp [drew_size]; omega)) _ | with_reducible refine Below.setCell ?_ (by first | omega | (simp; done) | (simp; omega) | (simp [drew_size]; done) | (simp [drew_size]; omega)) _))
    have k2 : W2.heap[w1.heap.size]? = some (.cells #[.slice so n1 c1, .int .i64 rt] 25) := by rw [hW2]; exact heap_new _ _ rfl
    have hbw2 := Below.trans' hbw1 hb2 hbw1.size
    have hz2 : W2.heap.size = w1.heap.size + 1 := by rw [hW2]; simp
    obtain ⟨F, hF⟩ : ∃ F, entsE none ([] : List Ent) = F := ⟨_, rfl⟩
    rw [hF] at HEF
    have HQ := Lib.hid fun (W : World) (hb : Below W2.heap.size W2 W) => (by
      have := (hb.block _ (by omega)).trans k2
      simp [World.cell?, this] : W.cell? ⟨w1.heap.size, 0, none⟩ = some (.slice so n1 c1) ∧ W.cell? ⟨w1.heap.size, 1, none⟩ = some (.int .i64 rt))
    rw [← hW2]
    clear hW2 k2 hown0
    rcases hof with ⟨h1, rfl, rfl, rfl, rfl, h2⟩ | ⟨rfl, h1, t, h2, h3⟩
    · rw [hF] at h2
      have d1 : (E2 != 0) = true := by simp [h1]
      clear hF
      by_cases he : E2 = F
      · subst he
        have d3 : (E2 == E2) = true := by simp
        clear h2
        go_wp2_with (first | (go_at_call 6; (with_reducible refine (HEF.out _ hbw2).mono ?_); rintro x w3 ⟨rfl, hb3⟩; obtain ⟨q0, q1⟩ := HQ.out _ hb3))
        go_ret
        exact ⟨ret_bool (by simp), Below.trans' hbw2 hb3 hbw2.size⟩
      · have h2 := h2.resolve_left he
        obtain ⟨rfl, h4⟩ := h2
        exact absurd h4 (by simp)
    · obtain rfl : F = 0 := hF.symm.trans h1
      have HK := Lib.hid fun (W : World) (hb : Below w1.heap.size w1 W) (hb' : Below w.heap.size w W) => HKN.out W hb' t _ (h2.below hb (Nat.le_refl _))
      have HM := Lib.hid (made_knowsB h3)
      clear h2 h3 h1 hF
      go_wp2_with (first
        | (go_at_call 6; (with_reducible refine (HEF.out _ hbw2).mono ?_); rintro x w3 ⟨rfl, hb3⟩; obtain ⟨q0, q1⟩ := HQ.out _ hb3; have hbw3 := Below.trans' hbw2 hb3 hbw2.size; have hb13 := Below.trans' hb2 hb3 hb2.size)
        | (go_at_call 7; (with_reducible refine (HK.out _ hb13 hbw3).mono ?_); rw [HM.out]; rintro x w4 ⟨rfl, hb4⟩))
      go_ret
      exact ⟨ret_bool rfl, Below.trans' hbw3 hb4 hbw3.size⟩
  | some ad =>
    obtain ⟨_, g1, g2⟩ := h.news (enEnt_length)
    clear a4 a5
    have HOF := Lib.hid fun (W : World) (v' : Value) (hb : Below w.heap.size w W) (ho : EntsAt W v' l) => treeOf_form ho
    have HEF := Lib.hid fun (W : World) (hb : Below w.heap.size w W) => entriesFault_any (h.below hb (Nat.le_refl _))
    have HKN := Lib.hid fun (W : World) (hb : Below w.heap.size w W) (t : Tr) (tv : Value) (ht : TreeAt W tv t) => knows_any ht (h.below hb (Nat.le_refl _))
    go_enter Try.func3, Try.ntmps3
    go_upto_region 2 with (first
      | (at_builtin; refine wpList_append_own _ rfl _ _ 22 rfl w.heap.size 48 i0 z 7 56 Try.underlying22 hi hz hz1 hz2 hz3 (by decide) _ _ _ rfl hown0 ad l.length cap (l.flatMap enEnt) rfl g1 (fun j u hj => g2 j u hj) (enEnt_one l) (by unfold maxLen; omega) (by omega) (by simp) ?_; intro v0 w0 hown0' hgrow hv; have hown : w0.ownsRow w.heap.size 48 7 v0 l.length (l.flatMap enEnt) := (by simpa using hown0'))
      | (go_at_call 5; have hg0 := Below.grown (Below.refl w.heap.size w) hgrow (Nat.le_refl _) (fun j hj => by cases hj); (with_reducible refine (HOF.out _ _ hg0 (SlAt.owned enEnt_length hown rfl a3)).mono ?_); rintro x w1 ⟨hb1, so, n1, c1, rt, E2, rfl, hof⟩))
    have hbw1 := Below.trans' (Below.grown (Below.refl _ _) hgrow (Nat.le_refl _) (fun j hj => by cases hj)) hb1 hgrow.size
    obtain ⟨W2, hW2⟩ : ∃ W2, W2 = w1.alloc (.cells #[.slice so n1 c1, .int .i64 rt] 25) := ⟨_, rfl⟩
    have hb2 : Below w1.heap.size w1 W2 := by rw [hW2]; exact (by repeat (first | with_reducible exact Below.refl _ _ | with_reducible assumption | with_reducible refine below_dn ?_ _ | with_reducible refine Below.drew ?_ | with_reducible refine Below.alloc ?_ (by first | omega | (simp; done) | (simp; omega) | (simp [drew_size]; done) | (simp [drew_size]; omega)) _ | with_reducible refine Below.setCell ?_ (by first | omega | (simp; done) | (simp; omega) | (simp [drew_size]; done) | (simp [drew_size]; omega)) _))
    have k2 : W2.heap[w1.heap.size]? = some (.cells #[.slice so n1 c1, .int .i64 rt] 25) := by rw [hW2]; exact heap_new _ _ rfl
    have hbw2 := Below.trans' hbw1 hb2 hbw1.size
    have hz2 : W2.heap.size = w1.heap.size + 1 := by rw [hW2]; simp
    obtain ⟨F, hF⟩ : ∃ F, entsE none l = F := ⟨_, rfl⟩
    rw [hF] at HEF
    have HQ := Lib.hid fun (W : World) (hb : Below W2.heap.size W2 W) => (by
      have := (hb.block _ (by omega)).trans k2
      simp [World.cell?, this] : W.cell? ⟨w1.heap.size, 0, none⟩ = some (.slice so n1 c1) ∧ W.cell? ⟨w1.heap.size, 1, none⟩ = some (.int .i64 rt))
    rw [← hW2]
    clear hW2 k2 hown0
    rcases hof with ⟨h1, rfl, rfl, rfl, rfl, h2⟩ | ⟨rfl, h1, t, h2, h3⟩
    · rw [hF] at h2
      have d1 : (E2 != 0) = true := by simp [h1]
      clear hF
      by_cases he : E2 = F
      · subst he
        have d3 : (E2 == E2) = true := by simp
        clear h2
        go_wp2_with (first | (go_at_call 6; (with_reducible refine (HEF.out _ hbw2).mono ?_); rintro x w3 ⟨rfl, hb3⟩; obtain ⟨q0, q1⟩ := HQ.out _ hb3))
        go_ret
        exact ⟨ret_bool (by simp), Below.trans' hbw2 hb3 hbw2.size⟩
      · have h2 := h2.resolve_left he
        obtain ⟨rfl, h4⟩ := h2
        have d3 : ((1 : Int) == F) = false := by simp [he]
        have d4 : (2900 : Int) < (l.length : Int) := by omega
        by_cases hf0 : F = 0
        · have d5 : (F != 0) = false := by simp [hf0]
          go_wp2_with (first | (go_at_call 6; (with_reducible refine (HEF.out _ hbw2).mono ?_); rintro x w3 ⟨rfl, hb3⟩; obtain ⟨q0, q1⟩ := HQ.out _ hb3))
          go_ret
          exact ⟨ret_bool (by simp), Below.trans' hbw2 hb3 hbw2.size⟩
        · have d5 : (F != 0) = true := by simp [hf0]
          go_wp2_with (first | (go_at_call 6; (with_reducible refine (HEF.out _ hbw2).mono ?_); rintro x w3 ⟨rfl, hb3⟩; obtain ⟨q0, q1⟩ := HQ.out _ hb3))
          go_ret
          exact ⟨ret_bool (by simp), Below.trans' hbw2 hb3 hbw2.size⟩
    · obtain rfl : F = 0 := hF.symm.trans h1
      have HK := Lib.hid fun (W : World) (hb : Below w1.heap.size w1 W) (hb' : Below w.heap.size w W) => HKN.out W hb' t _ (h2.below hb (Nat.le_refl _))
      have HM := Lib.hid (made_knowsB h3)
      clear h2 h3 h1 hF
      go_wp2_with (first
        | (go_at_call 6; (with_reducible refine (HEF.out _ hbw2).mono ?_); rintro x w3 ⟨rfl, hb3⟩; obtain ⟨q0, q1⟩ := HQ.out _ hb3; have hbw3 := Below.trans' hbw2 hb3 hbw2.size; have hb13 := Below.trans' hb2 hb3 hb2.size)
        | (go_at_call 7; (with_reducible refine (HK.out _ hb13 hbw3).mono ?_); rw [HM.out]; rintro x w4 ⟨rfl, hb4⟩))
      go_ret
      exact ⟨ret_bool rfl, Below.trans' hbw3 hb4 hbw3.size⟩
end Go.Proofs.Ytggcinmjmkfboaa
