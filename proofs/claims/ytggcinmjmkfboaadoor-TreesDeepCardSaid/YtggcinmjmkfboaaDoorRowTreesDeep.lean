/- The law TreesDeep: for every input that can be read it returns true, and every argument reads afterwards as it read before. No condition. -/
import Derived.Test.YtggcinmjmkfboaaDoorOpen
import Derived.Test.YtggcinmjmkfboaaDoorGenLaid
import Derived.Test.YtggcinmjmkfboaaDoorCards
import Derived.Test.YtggcinmjmkfboaaDoorLawTreesDeep
namespace Go.Proofs.YtggcinmjmkfboaaDoor
open Go.ChangeShapes Go.WideShapes Go.ChangeAt Go.RowKit

theorem treesDeep_spec {H : Type} : ∀ ds : List (DataW H), ds.length = Tryd.f5.params.size → Rows.treesDeepSpec.fn H (ds ++ []) = { results := [.lit (.bool true)], args := ds } := by
  intro ds hds
  match ds, hds with
  | [_, _], _ => rfl

set_option maxRecDepth 100000 in
theorem treesDeep_lifted (os : Os) (started : os.Started) (H : Type) (enc : TypeId × Value → H) :
    ReturnsInHanded {} Tryd.checked os 5 .any (fun w args => (Rows.treesDeepSpec.pre enc Tryd.prog Tryd.f5 [] false w args ∧ laidMetH Tryd.prog laidL w) ∧ sizedMet enc Tryd.prog Tryd.f5 (OpenSpec.ofChange Rows.treesDeepSpec) false w args) (Rows.treesDeepSpec.post enc Tryd.prog Tryd.f5 false true false false) := by
  refine lifted_of_laid (C := Tryd.checked) (tb := 4) (L := laidL) Tryd.own started (by kernel_rfl) Tryd.func5
    (ChangeSpec.witness_shaped (enc := enc) (C := Tryd.checked) (os := os) (X := fun w _ => laidMetH Tryd.prog laidL w) false (World.doorLaid Tryd.prog 14 os) #[.int .i64 0, .int .i64 0] 8 rfl (World.shaped_of_RefB (by kernel_rfl) (by kernel_rfl)) (by kernel_rfl) (by kernel_rfl) (by kernel_rfl) (door_met os _))
    Tryd.laidOut (by rw [show Tryd.f5.params = _ from Tryd.params5]; intro t ht; simp at ht; first | (subst ht; exact ⟨by kernel_rfl, of_decide_eq_true (by kernel_rfl)⟩) | (rcases ht with ht | ht <;> subst ht <;> exact ⟨by kernel_rfl, of_decide_eq_true (by kernel_rfl)⟩)) rfl rfl Tryd.underlying4 treesDeep_spec ?_
  intro W base args ds ps hval0 hA0 hlt hsz0 hL
  have SZ := sizes_of_laid hL
  have hval : ∀ (j : Nat) t v, Tryd.f5.params[j]? = some t → args[j]? = some v → Value.okWide Tryd.prog W .any base t v := hval0
  have hA : DataW.TrodAll enc Tryd.prog W 0 (fun _ => true) true Tryd.f5.params.toList args.toList ds ps := hA0
  have hsz : (DataW.weightsEach Tryd.prog Tryd.f5.params.toList ds).all (· ≤ reachBytes) = true := hsz0
  rw [Tryd.params5] at hA hval hsz
  clear hA0 hval0 hsz0
  obtain ⟨v0, v1, d0, d1, p0, p1, rfl, rfl, rfl, h0, h1⟩ := trodAll_two hA
  obtain ⟨n0, rfl, wl0, wh0⟩ := open_int' (hval 0 _ v0 rfl rfl) h0
  obtain ⟨n1, rfl, wl1, wh1⟩ := open_int' (hval 1 _ v1 rfl rfl) h1
  exact treesDeep_any ⟨wl0, wh0⟩ ⟨wl1, wh1⟩ SZ

theorem treesDeep_holds : Rows.TreesDeepSaid :=
  OpenClaim.holds_of_wide 5 Tryd.f5 rfl rfl rfl rfl rfl rfl rfl ⟨rfl, rfl, rfl, rfl, rfl⟩ rfl rfl rfl rfl rfl (by kernel_rfl) Tryd.func5 (by kernel_rfl)
    (of_decide_eq_true (by kernel_rfl)) (by unfold Func.isWrapper; rw [if_neg (of_decide_eq_false (by kernel_rfl))]; exact ⟨rfl, rfl⟩)
    (fun os started H enc _ => treesDeep_lifted os started H enc)

/-- The tied card. -/
theorem treesDeep_card : Rows.TreesDeepCardSaid :=
  Claim7.holds_tied_plain_at .later [] [.widerDeep] true _ false
    treesDeep_holds (fun _ h => by cases h) (by kernel_rfl) (fun _ h => by cases h) treesDeep_row_tie rfl ⟨rfl, rfl⟩ (by kernel_rfl) rfl
    (fun f fn hf hfn => by
      obtain rfl : f = 5 := Option.some.inj ((show Tryd.prog.funcNamed "winnower/winnowerkeep.TreesDeep" = some 5 by kernel_rfl).symm.trans hf) |>.symm
      obtain rfl : fn = Tryd.f5 := (Option.some.inj (Tryd.func5.symm.trans hfn)).symm
      exact ⟨by kernel_rfl, fun j t ht => by
        rw [Tryd.params5] at ht
        have hm : t ∈ [3] := by simpa using Array.mem_of_getElem? ht
        have hall : ([3].all fun u => !Tryd.prog.wantsStandIn u) = true := by kernel_rfl
        exact (show Tryd.prog.wantsStandIn t = false by simpa using List.all_eq_true.1 hall t hm)⟩)
    (by kernel_rfl)

#print axioms treesDeep_card
end Go.Proofs.YtggcinmjmkfboaaDoor
