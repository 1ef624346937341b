/- The law BasesExpire: for every input that can be read it returns true, and every argument reads afterwards as it read before. No condition. -/
import Derived.Test.YtalnnghnipoogaaDoorGE
import Derived.Test.YtalnnghnipoogaaDoorCards
import Derived.Test.YtalnnghnipoogaaDoorLawBasesExpire
import Derived.Test.YtalnnghnipoogaaDoorKT
namespace Go.Proofs.YtalnnghnipoogaaDoor
open Go.ChangeShapes Go.WideShapes Go.ChangeAt Go.RowKit

theorem basesExpire_spec {H : Type} : ∀ ds : List (DataW H), ds.length = Tryd.f8.params.size → Rows.basesExpireSpec.fn H (ds ++ []) = { results := [.lit (.bool true)], args := ds } := by
  intro ds hds
  match ds, hds with
  | [_, _, _], _ => rfl

set_option maxRecDepth 100000 in
theorem basesExpire_lifted (os : Os) (started : os.Started) (H : Type) (enc : TypeId × Value → H) :
    ReturnsInHanded {} Tryd.checked os 8 .any (fun w args => (Rows.basesExpireSpec.pre enc Tryd.prog Tryd.f8 [] false w args ∧ laidMetH Tryd.prog laidL w) ∧ sizedMet enc Tryd.prog Tryd.f8 (OpenSpec.ofChange Rows.basesExpireSpec) false w args) (Rows.basesExpireSpec.post enc Tryd.prog Tryd.f8 false true false false) := by
  refine lifted_of_laid (C := Tryd.checked) (tb := 4) (L := laidL) Tryd.own started (by kernel_rfl) Tryd.func8
    (ChangeSpec.witness_shaped (enc := enc) (C := Tryd.checked) (os := os) (X := fun w _ => laidMetH Tryd.prog laidL w) false (World.doorLaid Tryd.prog 14 os) #[.slice none 0 0, .int .i64 0, .int .i64 0] 8 rfl (World.shaped_of_RefB (by kernel_rfl) (by kernel_rfl)) (by kernel_rfl) (by kernel_rfl) (by kernel_rfl) (door_met os _))
    Tryd.laidOut (by rw [show Tryd.f8.params = _ from Tryd.params8]; intro t ht; simp at ht; rcases ht with ht | ht <;> subst ht <;> exact ⟨by kernel_rfl, of_decide_eq_true (by kernel_rfl)⟩) rfl rfl Tryd.underlying4 basesExpire_spec ?_
  intro W base args ds ps hval0 hA0 hlt hsz0 hL
  have SZ := sizes_of_laid hL
  have hval : ∀ (j : Nat) t v, Tryd.f8.params[j]? = some t → args[j]? = some v → Value.okWide Tryd.prog W .any base t v := hval0
  have hA : DataW.TrodAll enc Tryd.prog W 0 (fun _ => true) true Tryd.f8.params.toList args.toList ds ps := hA0
  have hsz : (DataW.weightsEach Tryd.prog Tryd.f8.params.toList ds).all (· ≤ reachBytes) = true := hsz0
  rw [Tryd.params8] at hA hval hsz
  clear hA0 hval0 hsz0
  obtain ⟨v0, v1, v2, d0, d1, d2, p0, p1, p2, rfl, rfl, rfl, h0, h1, h2⟩ := trodAll_three hA
  obtain ⟨x0, a0, q0⟩ := open_raws' (hval 0 _ v0 rfl rfl) h0 (fun m hm => weights_le hsz (j := 0) rfl rfl m hm)
  obtain ⟨n1, rfl, wl1, wh1⟩ := open_int' (hval 1 _ v1 rfl rfl) h1
  obtain ⟨n2, rfl, wl2, wh2⟩ := open_int' (hval 2 _ v2 rfl rfl) h2
  exact basesExpire_any a0 q0 ⟨wl1, wh1⟩ ⟨wl2, wh2⟩ SZ

theorem basesExpire_holds : Rows.BasesExpireSaid :=
  OpenClaim.holds_of_wide 8 Tryd.f8 rfl rfl rfl rfl rfl rfl rfl ⟨rfl, rfl, rfl, rfl, rfl⟩ rfl rfl rfl rfl rfl (by kernel_rfl) Tryd.func8 (by kernel_rfl)
    (of_decide_eq_true (by kernel_rfl)) (by unfold Func.isWrapper; rw [if_neg (of_decide_eq_false (by kernel_rfl))]; exact ⟨rfl, rfl⟩)
    (fun os started H enc _ => basesExpire_lifted os started H enc)

theorem basesExpire_card : Rows.BasesExpireCardSaid :=
  Claim7.holds_tied_plain_at .later [] [.widerDeep] true _ false
    basesExpire_holds (fun _ h => by cases h) (by kernel_rfl) (fun _ h => by cases h) basesExpire_row_tie rfl ⟨rfl, rfl⟩ (by kernel_rfl) rfl
    (fun f fn hf hfn => by
      obtain rfl : f = 8 := Option.some.inj ((show Tryd.prog.funcNamed "winnower/winnowerkeep.BasesExpire" = some 8 by kernel_rfl).symm.trans hf) |>.symm
      obtain rfl : fn = Tryd.f8 := (Option.some.inj (Tryd.func8.symm.trans hfn)).symm
      exact ⟨by kernel_rfl, fun j t ht => by
        rw [Tryd.params8] at ht
        have hm : t ∈ [43, 3] := by simpa using Array.mem_of_getElem? ht
        have hall : ([43, 3].all fun u => !Tryd.prog.wantsStandIn u) = true := by kernel_rfl
        exact (show Tryd.prog.wantsStandIn t = false by simpa using List.all_eq_true.1 hall t hm)⟩)
    (by kernel_rfl)

#print axioms basesExpire_card
end Go.Proofs.YtalnnghnipoogaaDoor
