/- The law BaseNames: for every input that can be read it returns true, and every argument reads afterwards as it read before. No condition. -/
import Derived.Test.YtbfadgkdhhkpeaaOpen
import Derived.Test.YtbfadgkdhhkpeaaNameB
namespace Go.Proofs.Ytbfadgkdhhkpeaa
open Go.ChangeShapes Go.WideShapes Go.ChangeAt Go.RowKit

theorem baseNames_spec {H : Type} : ∀ ds : List (DataW H), ds.length = Try.f9.params.size → Rows.baseNamesSpec.fn H (ds ++ []) = { results := [.lit (.bool true)], args := ds } := by
  intro ds hds
  match ds, hds with
  | [_], _ => rfl

set_option maxRecDepth 100000 in
theorem baseNames_lifted (os : Os) (started : os.Started) (H : Type) (enc : TypeId × Value → H) :
    ReturnsInHanded {} Try.checked os 9 .any (Rows.baseNamesSpec.pre6 enc Try.prog Try.f9 Rows.baseNamesRow.domain false) (Rows.baseNamesSpec.post enc Try.prog Try.f9 false true false false) := by
  refine lifted_of (C := Try.checked) (tb := 4) Try.own started (by kernel_rfl) Try.func9
    (ChangeSpec.witness6 (enc := enc) (C := Try.checked) false ⟨#[], #[.string ByteArray.empty], []⟩ 8 (by kernel_rfl) (by kernel_rfl) (by kernel_rfl) (by kernel_rfl))
    Try.laidOut (by rw [show Try.f9.params = _ from Try.params9]; intro t ht; simp at ht; subst ht; exact ⟨by kernel_rfl, of_decide_eq_true (by kernel_rfl)⟩) rfl rfl Try.underlying4 baseNames_spec ?_
  intro W base args ds ps hval0 hA0 hlt hsz0
  have hval : ∀ (j : Nat) t v, Try.f9.params[j]? = some t → args[j]? = some v → Value.okWide Try.prog W .any base t v := hval0
  have hA : DataW.TrodAll enc Try.prog W 0 (fun _ => true) true Try.f9.params.toList args.toList ds ps := hA0
  have hsz : (DataW.weightsEach Try.prog Try.f9.params.toList ds).all (· ≤ reachBytes) = true := hsz0
  rw [Try.params9] at hA hval hsz
  clear hA0 hval0 hsz0
  obtain ⟨v0, d0, rfl, rfl, h0⟩ := trodAll_one hA
  obtain ⟨s0, rfl, g0⟩ := open_string' (hval 0 _ v0 rfl rfl) h0 (fun m hm => weights_le hsz (j := 0) rfl rfl m hm)
  exact baseNames_any s0 W g0

theorem baseNames_holds : Rows.BaseNamesSaid :=
  OpenClaim.holds_of_wide 9 Try.f9 rfl rfl rfl rfl rfl rfl rfl ⟨rfl, rfl, rfl, rfl, rfl⟩ rfl rfl rfl rfl rfl (by kernel_rfl) Try.func9 (by kernel_rfl)
    (of_decide_eq_true (by kernel_rfl)) (by unfold Func.isWrapper; rw [if_neg (of_decide_eq_false (by kernel_rfl))]; exact ⟨rfl, rfl⟩)
    (fun os started H enc _ => baseNames_lifted os started H enc)

#print axioms baseNames_holds
end Go.Proofs.Ytbfadgkdhhkpeaa
