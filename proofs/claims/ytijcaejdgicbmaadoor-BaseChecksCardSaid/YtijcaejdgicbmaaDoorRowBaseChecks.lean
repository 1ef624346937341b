/- The law BaseChecks: for every input that can be read it returns true, and every argument reads afterwards as it read before. No condition. -/
import Derived.Test.YtijcaejdgicbmaaDoorOpen
import Derived.Test.YtijcaejdgicbmaaDoorGenLaid
import Derived.Test.YtijcaejdgicbmaaDoorCards
import Derived.Test.YtijcaejdgicbmaaDoorLawBaseChecks
import Derived.Test.YtijcaejdgicbmaaDoorOB
namespace Go.Proofs.YtijcaejdgicbmaaDoor
open Go.ChangeShapes Go.WideShapes Go.ChangeAt Go.RowKit

theorem baseChecks_spec {H : Type} : ∀ ds : List (DataW H), ds.length = Tryd.f3.params.size → Rows.baseChecksSpec.fn H (ds ++ []) = { results := [.lit (.bool true)], args := ds } := by
  intro ds hds
  match ds, hds with
  | [_], _ => rfl

set_option maxRecDepth 100000 in
theorem baseChecks_lifted (os : Os) (started : os.Started) (H : Type) (enc : TypeId × Value → H) :
    ReturnsInHanded {} Tryd.checked os 3 .any (fun w args => (Rows.baseChecksSpec.pre enc Tryd.prog Tryd.f3 [] false w args ∧ laidMetH Tryd.prog laidL w) ∧ sizedMet enc Tryd.prog Tryd.f3 (OpenSpec.ofChange Rows.baseChecksSpec) false w args) (Rows.baseChecksSpec.post enc Tryd.prog Tryd.f3 false true false false) := by
  refine lifted_of_laid (C := Tryd.checked) (tb := 4) (L := laidL) Tryd.own started (by kernel_rfl) Tryd.func3
    (ChangeSpec.witness_shaped (enc := enc) (C := Tryd.checked) (os := os) (X := fun w _ => laidMetH Tryd.prog laidL w) false (World.doorLaid Tryd.prog 14 os) #[.agg #[.slice none 0 0, .slice none 0 0, .int .i64 0, .slice none 0 0, .int .i64 0, .slice none 0 0, .int .i64 0, .int .i64 0]] 8 rfl (World.shaped_of_RefB (by kernel_rfl) (by kernel_rfl)) (by kernel_rfl) (by kernel_rfl) (by kernel_rfl) (door_met os _))
    Tryd.laidOut (by rw [show Tryd.f3.params = _ from Tryd.params3]; intro t ht; simp at ht; subst ht; exact ⟨by kernel_rfl, of_decide_eq_true (by kernel_rfl)⟩) rfl rfl Tryd.underlying4 baseChecks_spec ?_
  intro W base args ds ps hval0 hA0 hlt hsz0 hL
  have SZ := sizes_of_laid hL
  have hval : ∀ (j : Nat) t v, Tryd.f3.params[j]? = some t → args[j]? = some v → Value.okWide Tryd.prog W .any base t v := hval0
  have hA : DataW.TrodAll enc Tryd.prog W 0 (fun _ => true) true Tryd.f3.params.toList args.toList ds ps := hA0
  have hsz : (DataW.weightsEach Tryd.prog Tryd.f3.params.toList ds).all (· ≤ reachBytes) = true := hsz0
  rw [Tryd.params3] at hA hval hsz
  clear hA0 hval0 hsz0
  obtain ⟨v0, d0, rfl, rfl, h0⟩ := trodAll_one hA
  obtain ⟨t0, a0, q0⟩ := open_base' (hval 0 _ v0 rfl rfl) h0 (fun m hm => weights_le hsz (j := 0) rfl rfl m hm)
  exact baseChecks_any a0 q0.2 SZ

theorem baseChecks_holds : Rows.BaseChecksSaid :=
  OpenClaim.holds_of_wide 3 Tryd.f3 rfl rfl rfl rfl rfl rfl rfl ⟨rfl, rfl, rfl, rfl, rfl⟩ rfl rfl rfl rfl rfl (by kernel_rfl) Tryd.func3 (by kernel_rfl)
    (of_decide_eq_true (by kernel_rfl)) (by unfold Func.isWrapper; rw [if_neg (of_decide_eq_false (by kernel_rfl))]; exact ⟨rfl, rfl⟩)
    (fun os started H enc _ => baseChecks_lifted os started H enc)

/-- The tied card. -/
theorem baseChecks_card : Rows.BaseChecksCardSaid :=
  Claim7.holds_tied_plain_at .later [] [.widerDeep] true _ false
    baseChecks_holds (fun _ h => by cases h) (by kernel_rfl) (fun _ h => by cases h) baseChecks_row_tie rfl ⟨rfl, rfl⟩ (by kernel_rfl) rfl
    (fun f fn hf hfn => by
      obtain rfl : f = 3 := Option.some.inj ((show Tryd.prog.funcNamed "winnower/winnowerlaw.BaseChecks" = some 3 by kernel_rfl).symm.trans hf) |>.symm
      obtain rfl : fn = Tryd.f3 := (Option.some.inj (Tryd.func3.symm.trans hfn)).symm
      exact ⟨by kernel_rfl, fun j t ht => by
        rw [Tryd.params3] at ht
        have hm : t ∈ [28] := by simpa using Array.mem_of_getElem? ht
        have hall : ([28].all fun u => !Tryd.prog.wantsStandIn u) = true := by kernel_rfl
        exact (show Tryd.prog.wantsStandIn t = false by simpa using List.all_eq_true.1 hall t hm)⟩)
    (by kernel_rfl)

#print axioms baseChecks_card
end Go.Proofs.YtijcaejdgicbmaaDoor
