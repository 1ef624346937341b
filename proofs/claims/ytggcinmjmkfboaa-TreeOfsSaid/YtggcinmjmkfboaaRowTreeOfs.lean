/- The law TreeOfs: for every input that can be read it returns true, and every argument reads afterwards as it read before. No condition. -/
import Derived.Test.YtggcinmjmkfboaaOpen
import Derived.Test.YtggcinmjmkfboaaLawOfs
import Derived.Test.YtggcinmjmkfboaaOB
namespace Go.Proofs.Ytggcinmjmkfboaa
open Go.ChangeShapes Go.WideShapes Go.ChangeAt Go.RowKit

theorem treeOfs_spec {H : Type} : ∀ ds : List (DataW H), ds.length = Try.f3.params.size → Rows.treeOfsSpec.fn H (ds ++ []) = { results := [.lit (.bool true)], args := ds } := by
  intro ds hds
  match ds, hds with
  | [_], _ => rfl

set_option maxRecDepth 100000 in
theorem treeOfs_lifted (os : Os) (started : os.Started) (H : Type) (enc : TypeId × Value → H) :
    ReturnsInHanded {} Try.checked os 3 .any (Rows.treeOfsSpec.pre6 enc Try.prog Try.f3 Rows.treeOfsRow.domain false) (Rows.treeOfsSpec.post enc Try.prog Try.f3 false true false false) := by
  refine lifted_of (C := Try.checked) (tb := 4) Try.own started (by kernel_rfl) Try.func3
    (ChangeSpec.witness6 (enc := enc) (C := Try.checked) false ⟨#[], #[.slice none 0 0], []⟩ 8 (by kernel_rfl) (by kernel_rfl) (by kernel_rfl) (by kernel_rfl))
    Try.laidOut (by rw [show Try.f3.params = _ from Try.params3]; intro t ht; simp at ht; subst ht; exact ⟨by kernel_rfl, of_decide_eq_true (by kernel_rfl)⟩) rfl rfl Try.underlying4 treeOfs_spec ?_
  intro W base args ds ps hval0 hA0 hlt hsz0
  have hval : ∀ (j : Nat) t v, Try.f3.params[j]? = some t → args[j]? = some v → Value.okWide Try.prog W .any base t v := hval0
  have hA : DataW.TrodAll enc Try.prog W 0 (fun _ => true) true Try.f3.params.toList args.toList ds ps := hA0
  have hsz : (DataW.weightsEach Try.prog Try.f3.params.toList ds).all (· ≤ reachBytes) = true := hsz0
  rw [Try.params3] at hA hval hsz
  clear hA0 hval0 hsz0
  obtain ⟨v0, d0, rfl, rfl, h0⟩ := trodAll_one hA
  obtain ⟨x0, a0, q0⟩ := open_ents' (hval 0 _ v0 rfl rfl) h0 (fun m hm => weights_le hsz (j := 0) rfl rfl m hm)
  exact treeOfs_any a0

theorem treeOfs_holds : Rows.TreeOfsSaid :=
  OpenClaim.holds_of_wide 3 Try.f3 rfl rfl rfl rfl rfl rfl rfl ⟨rfl, rfl, rfl, rfl, rfl⟩ rfl rfl rfl rfl rfl (by kernel_rfl) Try.func3 (by kernel_rfl)
    (of_decide_eq_true (by kernel_rfl)) (by unfold Func.isWrapper; rw [if_neg (of_decide_eq_false (by kernel_rfl))]; exact ⟨rfl, rfl⟩)
    (fun os started H enc _ => treeOfs_lifted os started H enc)

#print axioms treeOfs_holds
end Go.Proofs.Ytggcinmjmkfboaa
