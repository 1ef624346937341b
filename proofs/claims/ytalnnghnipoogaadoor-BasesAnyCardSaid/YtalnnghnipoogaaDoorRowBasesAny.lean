/- The law BasesAny: for every input that can be read it returns true, and every argument reads afterwards as it read before. No condition. -/
import Derived.Test.YtalnnghnipoogaaDoorGE
import Derived.Test.YtalnnghnipoogaaDoorCards
import Derived.Test.YtalnnghnipoogaaDoorLawBasesAny
import Derived.Test.YtalnnghnipoogaaDoorKT
namespace Go.Proofs.YtalnnghnipoogaaDoor
open Go.ChangeShapes Go.WideShapes Go.ChangeAt Go.RowKit

theorem basesAny_spec {H : Type} : ∀ ds : List (DataW H), ds.length = Tryd.f6.params.size → Rows.basesAnySpec.fn H (ds ++ []) = { results := [.lit (.bool true)], args := ds } := by
  intro ds hds
  match ds, hds with
  | [_, _, _], _ => rfl

set_option maxRecDepth 100000 in
theorem basesAny_lifted (os : Os) (started : os.Started) (H : Type) (enc : TypeId × Value → H) :
    ReturnsInHanded {} Tryd.checked os 6 .any (fun w args => (Rows.basesAnySpec.pre enc Tryd.prog Tryd.f6 [] false w args ∧ laidMetH Tryd.prog laidL w) ∧ sizedMet enc Tryd.prog Tryd.f6 (OpenSpec.ofChange Rows.basesAnySpec) false w args) (Rows.basesAnySpec.post enc Tryd.prog Tryd.f6 false true false false) := by
  refine lifted_of_laid (C := Tryd.checked) (tb := 4) (L := laidL) Tryd.own started (by kernel_rfl) Tryd.func6
    (ChangeSpec.witness_shaped (enc := enc) (C := Tryd.checked) (os := os) (X := fun w _ => laidMetH Tryd.prog laidL w) false (World.doorLaid Tryd.prog 14 os) #[.slice none 0 0, .int .i64 0, .int .i64 0] 8 rfl (World.shaped_of_RefB (by kernel_rfl) (by kernel_rfl)) (by kernel_rfl) (by kernel_rfl) (by kernel_rfl) (door_met os _))
    Tryd.laidOut (by rw [show Tryd.f6.params = _ from Tryd.params6]; intro t ht; simp at ht; rcases ht with ht | ht <;> subst ht <;> exact ⟨by kernel_rfl, of_decide_eq_true (by kernel_rfl)⟩) rfl rfl Tryd.underlying4 basesAny_spec ?_
  intro W base args ds ps hval0 hA0 hlt hsz0 hL
  have SZ := sizes_of_laid hL
  have hval : ∀ (j : Nat) t v, Tryd.f6.params[j]? = some t → args[j]? = some v → Value.okWide Tryd.prog W .any base t v := hval0
  have hA : DataW.TrodAll enc Tryd.prog W 0 (fun _ => true) true Tryd.f6.params.toList args.toList ds ps := hA0
  have hsz : (DataW.weightsEach Tryd.prog Tryd.f6.params.toList ds).all (· ≤ reachBytes) = true := hsz0
  rw [Tryd.params6] at hA hval hsz
  clear hA0 hval0 hsz0
  obtain ⟨v0, v1, v2, d0, d1, d2, p0, p1, p2, rfl, rfl, rfl, h0, h1, h2⟩ := trodAll_three hA
  obtain ⟨x0, a0, q0⟩ := open_raws' (hval 0 _ v0 rfl rfl) h0 (fun m hm => weights_le hsz (j := 0) rfl rfl m hm)
  obtain ⟨n1, rfl, wl1, wh1⟩ := open_int' (hval 1 _ v1 rfl rfl) h1
  obtain ⟨n2, rfl, wl2, wh2⟩ := open_int' (hval 2 _ v2 rfl rfl) h2
  exact basesAny_any a0 q0 ⟨wl1, wh1⟩ ⟨wl2, wh2⟩ SZ

theorem basesAny_holds : Rows.BasesAnySaid :=
  OpenClaim.holds_of_wide 6 Tryd.f6 rfl rfl rfl rfl rfl rfl rfl ⟨rfl, rfl, rfl, rfl, rfl⟩ rfl rfl rfl rfl rfl (by kernel_rfl) Tryd.func6 (by kernel_rfl)
    (of_decide_eq_true (by kernel_rfl)) (by unfold Func.isWrapper; rw [if_neg (of_decide_eq_false (by kernel_rfl))]; exact ⟨rfl, rfl⟩)
    (fun os started H enc _ => basesAny_lifted os started H enc)

theorem basesAny_card : Rows.BasesAnyCardSaid :=
  Claim7.holds_tied_plain_at .later [] [.widerDeep] true _ false
    basesAny_holds (fun _ h => by cases h) (by kernel_rfl) (fun _ h => by cases h) basesAny_row_tie rfl ⟨rfl, rfl⟩ (by kernel_rfl) rfl
    (fun f fn hf hfn => by
      obtain rfl : f = 6 := Option.some.inj ((show Tryd.prog.funcNamed "winnower/winnowerkeep.BasesAny" = some 6 by kernel_rfl).symm.trans hf) |>.symm
      obtain rfl : fn = Tryd.f6 := (Option.some.inj (Tryd.func6.symm.trans hfn)).symm
      exact ⟨by kernel_rfl, fun j t ht => by
        rw [Tryd.params6] at ht
        have hm : t ∈ [43, 3] := by simpa using Array.mem_of_getElem? ht
        have hall : ([43, 3].all fun u => !Tryd.prog.wantsStandIn u) = true := by kernel_rfl
        exact (show Tryd.prog.wantsStandIn t = false by simpa using List.all_eq_true.1 hall t hm)⟩)
    (by kernel_rfl)

#print axioms basesAny_card
end Go.Proofs.YtalnnghnipoogaaDoor
