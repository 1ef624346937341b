/- The walks of 'picked' and of the law MergesPoints. -/
import Derived.Test.YtalnnghnipoogaaDoorRO
namespace Go.Proofs.YtalnnghnipoogaaDoor
open Go.RowKit

def picked (n m : Int) : Int := (if n < 0 then -(n + 1) else n) % m
theorem picked_range {n m : Int} (hm : 0 < m) : 0 ≤ picked n m ∧ picked n m < m := ⟨Int.emod_nonneg _ (by omega), Int.emod_lt_of_pos _ hm⟩

theorem picked_any (n m : Int) (w : World) (h0 : -9223372036854775808 ≤ n) (h1 : n ≤ 9223372036854775807) (hm : 1 ≤ m) (hm2 : m ≤ 9223372036854775807) :
    Calls Tryd.prog 20 #[.int .i64 n, .int .i64 m] w fun e w' => e = .returned (.int .i64 (picked n m)) ∧ w = w' := by
  by_cases h : n < 0
  · have e1 : IntKind.i64.wrap (n + 1) = n + 1 := IntWalk.i64_in _ (by omega)
    go_enter Tryd.func20, Tryd.ntmps20
    go_wp2
    go_ret
    refine ⟨ret_int ?_, rfl⟩
    unfold picked
    rw [if_pos h]
    rw [← Int.neg_tmod]
    exact Int.tmod_eq_emod_of_nonneg (by omega)
  · go_enter Tryd.func20, Tryd.ntmps20
    go_wp2
    go_ret
    refine ⟨ret_int ?_, rfl⟩
    unfold picked
    rw [if_neg (by omega)]
end Go.Proofs.YtalnnghnipoogaaDoor
