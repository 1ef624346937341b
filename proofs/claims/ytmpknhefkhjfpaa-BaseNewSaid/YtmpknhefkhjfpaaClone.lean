/- slices.Clone. -/
import Derived.Test.YtmpknhefkhjfpaaApp
import Derived.Lib.LazyBuf
namespace Go.Proofs.Ytmpknhefkhjfpaa
open Go.RowKit

set_option maxRecDepth 100000 in
set_option maxHeartbeats 1000000 in
theorem cloneEnt_any {v : Value} {xs : List Ent} {w : World} (h : SlAt 7 56 enEnt w v xs) :
    Calls Try.prog 35 #[v] w fun e w' => ∃ v', e = .returned v' ∧ w'.ownsRow w.heap.size 70 7 v' xs.length (xs.flatMap enEnt) ∧ Below w.heap.size w w' := by
  obtain ⟨ao, cap, rfl, h1, h2, h3, h4, h5⟩ := id h
  have hnil : ∀ w, (binOp .eql 47 (.slice ao xs.length cap) (.slice none 0 0)).run Try.prog w = .ok (.bool ao.isNone) w := fun w => Lib.run_eql_slice_nil w _ _ _ _ _ _ _ Try.underlying47
  cases ao with
  | none =>
    have h0 : xs.length = 0 := by have := h4 rfl; omega
    obtain rfl := List.eq_nil_of_length_eq_zero h0
    obtain rfl : cap = 0 := h4 rfl
    clear h4 h5
    simp only [Option.isNone_none, List.length_nil] at hnil
    go_enter Try.func35, Try.ntmps35
    go_wp2_with fail
    go_ret
    exact ⟨_, rfl, World.ownsRow_nil _ _ _ _, Below.refl _ _⟩
  | some ad =>
    obtain ⟨_, g1, g2⟩ := h.news (enEnt_length)
    obtain ⟨i0, z, hi, hz, hz1, hz2, hz3⟩ := info_some Try.iEnt
    simp only [Option.isNone_some] at hnil
    have hown0 : (w.alloc (.cells #[] 70)).ownsRow w.heap.size 70 7 (.slice (some ⟨w.heap.size, 0, none⟩) 0 0) 0 [] := World.ownsRow_made w #[] 0 (Nat.le_refl _) (by simp [maxLen]) (by simp)
    clear h4 h5
    go_enter Try.func35, Try.ntmps35
    go_wp2_with (at_builtin; refine wpList_append_own _ rfl _ _ 47 rfl w.heap.size 70 i0 z 7 56 Try.underlying47 hi hz hz1 hz2 hz3 (by decide) _ _ _ rfl hown0 ad xs.length cap (xs.flatMap enEnt) rfl g1 (fun j u hj => cell_alloc (g2 j u hj)) (enEnt_one xs) (by unfold maxLen; omega) (by omega) (by simp) ?_; intro v' w3 hown' hgrow hv)
    go_ret
    exact ⟨v', rfl, by simpa using hown', Below.grown ((Below.refl _ _).alloc (Nat.le_refl _) _) hgrow (by simp) (fun j hj => (hown0.lt j hj).1)⟩

set_option maxRecDepth 100000 in
set_option maxHeartbeats 1000000 in
theorem cloneInt_any {v : Value} {xs : List Int} {w : World} (h : SlAt 1 8 enInt w v xs) :
    Calls Try.prog 36 #[v] w fun e w' => ∃ v', e = .returned v' ∧ w'.ownsRow w.heap.size 3 1 v' xs.length (xs.flatMap enInt) ∧ Below w.heap.size w w' := by
  obtain ⟨ao, cap, rfl, h1, h2, h3, h4, h5⟩ := id h
  have hnil : ∀ w, (binOp .eql 62 (.slice ao xs.length cap) (.slice none 0 0)).run Try.prog w = .ok (.bool ao.isNone) w := fun w => Lib.run_eql_slice_nil w _ _ _ _ _ _ _ Try.underlying62
  cases ao with
  | none =>
    have h0 : xs.length = 0 := by have := h4 rfl; omega
    obtain rfl := List.eq_nil_of_length_eq_zero h0
    obtain rfl : cap = 0 := h4 rfl
    clear h4 h5
    simp only [Option.isNone_none, List.length_nil] at hnil
    go_enter Try.func36, Try.ntmps36
    go_wp2_with fail
    go_ret
    exact ⟨_, rfl, World.ownsRow_nil _ _ _ _, Below.refl _ _⟩
  | some ad =>
    obtain ⟨_, g1, g2⟩ := h.news (enInt_length)
    obtain ⟨i0, z, hi, hz, hz1, hz2, hz3⟩ := info_some Try.iInt
    simp only [Option.isNone_some] at hnil
    have hown0 : (w.alloc (.cells #[] 3)).ownsRow w.heap.size 3 1 (.slice (some ⟨w.heap.size, 0, none⟩) 0 0) 0 [] := World.ownsRow_made w #[] 0 (Nat.le_refl _) (by simp [maxLen]) (by simp)
    clear h4 h5
    go_enter Try.func36, Try.ntmps36
    go_wp2_with (at_builtin; refine wpList_append_own _ rfl _ _ 62 rfl w.heap.size 3 i0 z 1 8 Try.underlying62 hi hz hz1 hz2 hz3 (by decide) _ _ _ rfl hown0 ad xs.length cap (xs.flatMap enInt) rfl g1 (fun j u hj => cell_alloc (g2 j u hj)) (enInt_one xs) (by unfold maxLen; omega) (by omega) (by simp) ?_; intro v' w3 hown' hgrow hv)
    go_ret
    exact ⟨v', rfl, by simpa using hown', Below.grown ((Below.refl _ _).alloc (Nat.le_refl _) _) hgrow (by simp) (fun j hj => (hown0.lt j hj).1)⟩
end Go.Proofs.Ytmpknhefkhjfpaa
