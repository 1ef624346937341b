/- The walk of the law Names. -/
import Derived.Test.YtbfadgkdhhkpeaaEq
namespace Go.Proofs.Ytbfadgkdhhkpeaa
open Go.RowKit

def errNos : List Int := [0, 1, 2, 3, 4, 5, 6, 7, 8, 9]
def limNos : List Int := [4, 2, 8, 6, 2000, 12, 10, 16, 1048575, 1000000, 1073741824, 1125899906842624, 500, 500, 200000, 3, 1, 2, 3, 4, 5, 6]
theorem errNos_at {k : Nat} (h : k < 10) : errNos.getD k 0 = k := by
  match k, h with
  | 0, _ | 1, _ | 2, _ | 3, _ | 4, _ | 5, _ | 6, _ | 7, _ | 8, _ | 9, _ => rfl
theorem nos_cell {w : World} {l : List Int} {t : TypeId} {B : Nat} (h : w.heap[B]? = some (.cells (l.map (Value.int .i64)).toArray t (0, 0))) {j : Nat} (hj : j < l.length) : w.cell? ⟨B, j, none⟩ = some (.int .i64 (l.getD j 0)) := by
  simp [World.cell?, h, List.getD, hj]

theorem heap_new (w : World) (o : Obj) : (w.alloc o).heap[w.heap.size]? = some o := by show (w.heap.push o)[w.heap.size]? = _; simp
theorem heap_new1 (w : World) (o o' : Obj) : ((w.alloc o).alloc o').heap[w.heap.size + 1]? = some o' := by
  have := heap_new (w.alloc o) o'
  rwa [World.size_alloc] at this

set_option maxHeartbeats 1000000 in
set_option maxRecDepth 100000 in
theorem names_any (w : World) : Calls Try.prog 3 #[] w fun e w' => e = .returned (.bool true) ∧ Below w.heap.size w w' := by
  go_enter Try.func3, Try.ntmps3
  go_wp2_with fail
  go_loopg [2] 10 (fun g i wr => ∃ k : Nat, k ≤ 10 ∧ g = 10 - k ∧ i = .int .i64 k ∧ wr.heap.size = w.heap.size + 1 ∧ Hid (wr.heap[w.heap.size]? = some (.cells (errNos.map (Value.int .i64)).toArray 24 (0, 0)) ∨ True) ∧
    (∀ j : Nat, j < 10 → wr.cell? ⟨w.heap.size, j, none⟩ = some (.int .i64 j)) ∧ Below w.heap.size w wr)
  case atStart =>
    refine ⟨0, by omega, rfl, rfl, by simp, Lib.hid (.inr trivial), fun j hj => ?_, (by repeat (first | exact Below.refl _ _ | assumption | refine below_dn ?_ _ | refine Below.drew ?_ | refine Below.alloc ?_ (by simp <;> omega) _ | refine Below.setCell ?_ (by simp <;> omega) _))⟩
    rw [← errNos_at hj]
    exact nos_cell (l := errNos) (heap_new w _) hj
  case round =>
    obtain ⟨k, hk, rfl, rfl, hz, HX, hc, hb⟩ := hrel
    by_cases hlt : k < 10
    · have hck := hc k hlt
      have HC := Lib.hid hc
      clear hc HX
      go_wp2
      go_roundg (10 - (k + 1))
      case measure => omega
      case rel => exact ⟨k + 1, by omega, rfl, by go_num, hz, Lib.hid (.inr trivial), HC.out, hb⟩
    · have HZ := Lib.hid hz
      clear hc hz
      go_wp2_with fail
      go_loopg [5] 22 (fun g i wz => ∃ k : Nat, k ≤ 22 ∧ g = 22 - k ∧ i = .int .i64 k ∧
        (∀ j : Nat, j < 22 → wz.cell? ⟨wr.heap.size, j, none⟩ = some (.int .i64 (limNos.getD j 0)) ∧ wz.cell? ⟨wr.heap.size + 1, j, none⟩ = some (.int .i64 (limNos.getD j 0))) ∧ Below w.heap.size w wz)
      case atStart =>
        refine ⟨0, by omega, rfl, rfl, fun j hj => ⟨?_, ?_⟩, ?_⟩
        · exact nos_cell (l := limNos) ((heap_alloc_lt (by simp)).trans (heap_new wr _)) hj
        · exact nos_cell (l := limNos) (heap_new1 wr _ _) hj
        · have hz := HZ.out
          exact (hb.alloc (by omega) _).alloc (by simp; omega) _
      case round =>
        obtain ⟨k, hk, rfl, rfl, hc, hb⟩ := hrel
        by_cases hlt : k < 22
        · obtain ⟨hc1, hc2⟩ := hc k hlt
          have HC := Lib.hid hc
          clear hc
          obtain ⟨x, hx⟩ : ∃ x, limNos.getD k 0 = x := ⟨_, rfl⟩
          rw [hx] at hc1 hc2
          clear hx
          go_wp2
          go_quiet (fail)
          go_wp2
          go_roundg (22 - (k + 1))
          case measure => omega
          case rel => exact ⟨k + 1, by omega, rfl, by go_num, HC.out, (by repeat (first | exact Below.refl _ _ | assumption | refine below_dn ?_ _ | refine Below.drew ?_ | refine Below.alloc ?_ (by simp <;> omega) _ | refine Below.setCell ?_ (by simp <;> omega) _))⟩
        · clear hc
          go_wp2
          go_ret
          exact ⟨rfl, hb⟩
end Go.Proofs.Ytbfadgkdhhkpeaa
