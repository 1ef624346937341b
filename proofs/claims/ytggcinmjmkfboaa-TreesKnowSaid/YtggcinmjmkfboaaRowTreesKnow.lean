/- The law TreesKnow: for every input that can be read it returns true, and every argument reads afterwards as it read before. No condition. -/
import Derived.Test.YtggcinmjmkfboaaOpen
import Derived.Test.YtggcinmjmkfboaaLawTreesKnow
import Derived.Test.YtggcinmjmkfboaaKT
namespace Go.Proofs.Ytggcinmjmkfboaa
open Go.ChangeShapes Go.WideShapes Go.ChangeAt Go.RowKit

theorem treesKnow_spec {H : Type} : ∀ ds : List (DataW H), ds.length = Try.f4.params.size → Rows.treesKnowSpec.fn H (ds ++ []) = { results := [.lit (.bool true)], args := ds } := by
  intro ds hds
  match ds, hds with
  | [_, _], _ => rfl

set_option maxRecDepth 100000 in
theorem treesKnow_lifted (os : Os) (started : os.Started) (H : Type) (enc : TypeId × Value → H) :
    ReturnsInHanded {} Try.checked os 4 .any (Rows.treesKnowSpec.pre6 enc Try.prog Try.f4 Rows.treesKnowRow.domain false) (Rows.treesKnowSpec.post enc Try.prog Try.f4 false true false false) := by
  refine lifted_of (C := Try.checked) (tb := 4) Try.own started (by kernel_rfl) Try.func4
    (ChangeSpec.witness6 (enc := enc) (C := Try.checked) false ⟨#[], #[.slice none 0 0, .int .i64 0], []⟩ 8 (by kernel_rfl) (by kernel_rfl) (by kernel_rfl) (by kernel_rfl))
    Try.laidOut (by rw [show Try.f4.params = _ from Try.params4]; intro t ht; simp at ht; rcases ht with ht | ht <;> subst ht <;> exact ⟨by kernel_rfl, of_decide_eq_true (by kernel_rfl)⟩) rfl rfl Try.underlying4 treesKnow_spec ?_
  intro W base args ds ps hval0 hA0 hlt hsz0
  have hval : ∀ (j : Nat) t v, Try.f4.params[j]? = some t → args[j]? = some v → Value.okWide Try.prog W .any base t v := hval0
  have hA : DataW.TrodAll enc Try.prog W 0 (fun _ => true) true Try.f4.params.toList args.toList ds ps := hA0
  have hsz : (DataW.weightsEach Try.prog Try.f4.params.toList ds).all (· ≤ reachBytes) = true := hsz0
  rw [Try.params4] at hA hval hsz
  clear hA0 hval0 hsz0
  obtain ⟨v0, v1, d0, d1, p0, p1, rfl, rfl, rfl, h0, h1⟩ := trodAll_two hA
  obtain ⟨x0, a0, q0⟩ := open_raws' (hval 0 _ v0 rfl rfl) h0 (fun m hm => weights_le hsz (j := 0) rfl rfl m hm)
  obtain ⟨n1, rfl, wl1, wh1⟩ := open_int' (hval 1 _ v1 rfl rfl) h1
  exact treesKnow_any a0 q0 ⟨wl1, wh1⟩

theorem treesKnow_holds : Rows.TreesKnowSaid :=
  OpenClaim.holds_of_wide 4 Try.f4 rfl rfl rfl rfl rfl rfl rfl ⟨rfl, rfl, rfl, rfl, rfl⟩ rfl rfl rfl rfl rfl (by kernel_rfl) Try.func4 (by kernel_rfl)
    (of_decide_eq_true (by kernel_rfl)) (by unfold Func.isWrapper; rw [if_neg (of_decide_eq_false (by kernel_rfl))]; exact ⟨rfl, rfl⟩)
    (fun os started H enc _ => treesKnow_lifted os started H enc)

#print axioms treesKnow_holds
end Go.Proofs.Ytggcinmjmkfboaa
