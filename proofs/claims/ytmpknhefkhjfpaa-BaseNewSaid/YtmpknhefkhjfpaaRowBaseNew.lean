/- The law BaseNew: for every input that can be read it returns true, and every argument reads afterwards as it read before. No condition. -/
import Derived.Test.YtmpknhefkhjfpaaOpen
import Derived.Test.YtmpknhefkhjfpaaLawBaseNew
namespace Go.Proofs.Ytmpknhefkhjfpaa
open Go.ChangeShapes Go.WideShapes Go.ChangeAt Go.RowKit

theorem baseNew_spec {H : Type} : ∀ ds : List (DataW H), ds.length = Try.f4.params.size → Rows.baseNewSpec.fn H (ds ++ []) = { results := [.lit (.bool true)], args := ds } := by
  intro ds hds
  match ds, hds with
  | [_], _ => rfl

set_option maxRecDepth 100000 in
theorem baseNew_lifted (os : Os) (started : os.Started) (H : Type) (enc : TypeId × Value → H) :
    ReturnsInHanded {} Try.checked os 4 .any (Rows.baseNewSpec.pre6 enc Try.prog Try.f4 Rows.baseNewRow.domain false) (Rows.baseNewSpec.post enc Try.prog Try.f4 false true false false) := by
  refine lifted_of (C := Try.checked) (tb := 4) Try.own started (by kernel_rfl) Try.func4
    (ChangeSpec.witness6 (enc := enc) (C := Try.checked) false ⟨#[], #[.int .i64 0], []⟩ 8 (by kernel_rfl) (by kernel_rfl) (by kernel_rfl) (by kernel_rfl))
    Try.laidOut (by rw [show Try.f4.params = _ from Try.params4]; intro t ht; simp at ht; subst ht; exact ⟨by kernel_rfl, of_decide_eq_true (by kernel_rfl)⟩) rfl rfl Try.underlying4 baseNew_spec ?_
  intro W base args ds ps hval0 hA0 hlt hsz0
  have hval : ∀ (j : Nat) t v, Try.f4.params[j]? = some t → args[j]? = some v → Value.okWide Try.prog W .any base t v := hval0
  have hA : DataW.TrodAll enc Try.prog W 0 (fun _ => true) true Try.f4.params.toList args.toList ds ps := hA0
  have hsz : (DataW.weightsEach Try.prog Try.f4.params.toList ds).all (· ≤ reachBytes) = true := hsz0
  rw [Try.params4] at hA hval hsz
  clear hA0 hval0 hsz0
  obtain ⟨v0, d0, rfl, rfl, h0⟩ := trodAll_one hA
  obtain ⟨n0, rfl, wl0, wh0⟩ := open_int' (hval 0 _ v0 rfl rfl) h0
  exact baseNew_any n0 W

theorem baseNew_holds : Rows.BaseNewSaid :=
  OpenClaim.holds_of_wide 4 Try.f4 rfl rfl rfl rfl rfl rfl rfl ⟨rfl, rfl, rfl, rfl, rfl⟩ rfl rfl rfl rfl rfl (by kernel_rfl) Try.func4 (by kernel_rfl)
    (of_decide_eq_true (by kernel_rfl)) (by unfold Func.isWrapper; rw [if_neg (of_decide_eq_false (by kernel_rfl))]; exact ⟨rfl, rfl⟩)
    (fun os started H enc _ => baseNew_lifted os started H enc)

#print axioms baseNew_holds
end Go.Proofs.Ytmpknhefkhjfpaa
