/-
  DERIVED. GIVEN WITH THE SEED: THE CARDS: each row of YtmljjfhgciaceaaDoorRows.lean that lists a variable, with what it lists TIED to the program's text (the seventh form; the later family's looks); each row that meets fmt, with fmt's text TOLD by the authors' own Lean function (tested against real Go, not proved from fmt's source: count such statements apart). THE CARD IS WHAT COUNTS. Prove the row's statement (the work); the ties are given (YtmljjfhgciaceaaDoorTie.lean); close each card by the builder's one call (the guide's Derived/Test/ToyasCard.lean, 'card_holds'). Laid BY PROGRAM, IN A SANDBOX (cutbox-door.mjs). By AI agents, Wed Nov 11 2026. No macro, syntax, notation, axiom, sorry.
-/
import Derived.Test.YtmljjfhgciaceaaDoorRows
import GoSem.ClaimSeven
namespace Go.Proofs.YtmljjfhgciaceaaDoor
namespace Rows

/-- THE TIED CARD OF 'winnowertop.TopTotals'. -/
def topTotalsCard : Claim7 := { stood := { row := topTotalsRow, standIns := [], harness := (true, "515e58ec8e54e93ca249e2992deb68fafd5dfac0a8c0530e92f14749819471e0"), looks := false }, kinds := [], alts := [], laidByText := true, laidKinds := [.widerDeep], laidTests := true, laidLooks := .later }
def TopTotalsCardSaid : Prop := Claim7.holds Tryd.pinned (.plain (OpenSpec.ofChange topTotalsSpec)) topTotalsCard

/-- THE TIED CARD OF 'winnowertop.TopBuckets'. -/
def topBucketsCard : Claim7 := { stood := { row := topBucketsRow, standIns := [], harness := (true, "515e58ec8e54e93ca249e2992deb68fafd5dfac0a8c0530e92f14749819471e0"), looks := false }, kinds := [], alts := [], laidByText := true, laidKinds := [.widerDeep], laidTests := true, laidLooks := .later }
def TopBucketsCardSaid : Prop := Claim7.holds Tryd.pinned (.plain (OpenSpec.ofChange topBucketsSpec)) topBucketsCard

/-- THE TIED CARD OF 'winnowertop.TopAsking'. -/
def topAskingCard : Claim7 := { stood := { row := topAskingRow, standIns := [], harness := (true, "515e58ec8e54e93ca249e2992deb68fafd5dfac0a8c0530e92f14749819471e0"), looks := false }, kinds := [], alts := [], laidByText := true, laidKinds := [.widerDeep], laidTests := true, laidLooks := .later }
def TopAskingCardSaid : Prop := Claim7.holds Tryd.pinned (.plain (OpenSpec.ofChange topAskingSpec)) topAskingCard

/-- THE TIED CARD OF 'winnowerlaw.BaseAdds'. -/
def baseAddsCard : Claim7 := { stood := { row := baseAddsRow, standIns := [], harness := (true, "515e58ec8e54e93ca249e2992deb68fafd5dfac0a8c0530e92f14749819471e0"), looks := false }, kinds := [], alts := [], laidByText := true, laidKinds := [.widerDeep], laidTests := true, laidLooks := .later }
def BaseAddsCardSaid : Prop := Claim7.holds Tryd.pinned (.plain (OpenSpec.ofChange baseAddsSpec)) baseAddsCard

/-- THE TIED CARD OF 'winnowerkeep.ScriptsGood'. -/
def scriptsGoodCard : Claim7 := { stood := { row := scriptsGoodRow, standIns := [], harness := (true, "515e58ec8e54e93ca249e2992deb68fafd5dfac0a8c0530e92f14749819471e0"), looks := false }, kinds := [], alts := [], laidByText := true, laidKinds := [.widerDeep], laidTests := true, laidLooks := .later }
def ScriptsGoodCardSaid : Prop := Claim7.holds Tryd.pinned (.plain (OpenSpec.ofChange scriptsGoodSpec)) scriptsGoodCard

/-- THE TIED CARD OF 'winnowertop.TopSwap'. -/
def topSwapCard : Claim7 := { stood := { row := topSwapRow, standIns := [], harness := (true, "515e58ec8e54e93ca249e2992deb68fafd5dfac0a8c0530e92f14749819471e0"), looks := false }, kinds := [], alts := [], laidByText := true, laidKinds := [.widerDeep], laidTests := true, laidLooks := .later }
def TopSwapCardSaid : Prop := Claim7.holds Tryd.pinned (.plain (OpenSpec.ofChange topSwapSpec)) topSwapCard

/-- THE TIED CARD OF 'winnowertop.TopSteps'. -/
def topStepsCard : Claim7 := { stood := { row := topStepsRow, standIns := [], harness := (true, "515e58ec8e54e93ca249e2992deb68fafd5dfac0a8c0530e92f14749819471e0"), looks := false }, kinds := [], alts := [], laidByText := true, laidKinds := [.widerDeep], laidTests := true, laidLooks := .later }
def TopStepsCardSaid : Prop := Claim7.holds Tryd.pinned (.plain (OpenSpec.ofChange topStepsSpec)) topStepsCard

/-- THE TIED CARD OF 'winnowertop.TopBack'. -/
def topBackCard : Claim7 := { stood := { row := topBackRow, standIns := [], harness := (true, "515e58ec8e54e93ca249e2992deb68fafd5dfac0a8c0530e92f14749819471e0"), looks := false }, kinds := [], alts := [], laidByText := true, laidKinds := [.widerDeep], laidTests := true, laidLooks := .later }
def TopBackCardSaid : Prop := Claim7.holds Tryd.pinned (.plain (OpenSpec.ofChange topBackSpec)) topBackCard

/-- THE TIED CARD OF 'winnowertop.TopSaved'. -/
def topSavedCard : Claim7 := { stood := { row := topSavedRow, standIns := [], harness := (true, "515e58ec8e54e93ca249e2992deb68fafd5dfac0a8c0530e92f14749819471e0"), looks := false }, kinds := [], alts := [], laidByText := true, laidKinds := [.widerDeep], laidTests := true, laidLooks := .later }
def TopSavedCardSaid : Prop := Claim7.holds Tryd.pinned (.plain (OpenSpec.ofChange topSavedSpec)) topSavedCard

/-- THE SECOND FORM's CARD OF 'winnowertop.TopTotals'. -/
def topTotalsUptoCard : Claim7 := { stood := { row := topTotalsUptoRow, standIns := [], harness := (true, "515e58ec8e54e93ca249e2992deb68fafd5dfac0a8c0530e92f14749819471e0"), looks := false }, kinds := [], alts := [], laidByText := true, laidKinds := [.widerDeep], laidTests := true, laidLooks := .later }
def TopTotalsUptoCardSaid : Prop := Claim7.holds Tryd.pinned (.plain (OpenSpec.upto topTotalsSpec)) topTotalsUptoCard

/-- THE SECOND FORM's CARD OF 'winnowertop.TopBuckets'. -/
def topBucketsUptoCard : Claim7 := { stood := { row := topBucketsUptoRow, standIns := [], harness := (true, "515e58ec8e54e93ca249e2992deb68fafd5dfac0a8c0530e92f14749819471e0"), looks := false }, kinds := [], alts := [], laidByText := true, laidKinds := [.widerDeep], laidTests := true, laidLooks := .later }
def TopBucketsUptoCardSaid : Prop := Claim7.holds Tryd.pinned (.plain (OpenSpec.upto topBucketsSpec)) topBucketsUptoCard

/-- THE SECOND FORM's CARD OF 'winnowertop.TopAsking'. -/
def topAskingUptoCard : Claim7 := { stood := { row := topAskingUptoRow, standIns := [], harness := (true, "515e58ec8e54e93ca249e2992deb68fafd5dfac0a8c0530e92f14749819471e0"), looks := false }, kinds := [], alts := [], laidByText := true, laidKinds := [.widerDeep], laidTests := true, laidLooks := .later }
def TopAskingUptoCardSaid : Prop := Claim7.holds Tryd.pinned (.plain (OpenSpec.upto topAskingSpec)) topAskingUptoCard

/-- THE SECOND FORM's CARD OF 'winnowerlaw.BaseAdds'. -/
def baseAddsUptoCard : Claim7 := { stood := { row := baseAddsUptoRow, standIns := [], harness := (true, "515e58ec8e54e93ca249e2992deb68fafd5dfac0a8c0530e92f14749819471e0"), looks := false }, kinds := [], alts := [], laidByText := true, laidKinds := [.widerDeep], laidTests := true, laidLooks := .later }
def BaseAddsUptoCardSaid : Prop := Claim7.holds Tryd.pinned (.plain (OpenSpec.upto baseAddsSpec)) baseAddsUptoCard

/-- THE SECOND FORM's CARD OF 'winnowerkeep.ScriptsGood'. -/
def scriptsGoodUptoCard : Claim7 := { stood := { row := scriptsGoodUptoRow, standIns := [], harness := (true, "515e58ec8e54e93ca249e2992deb68fafd5dfac0a8c0530e92f14749819471e0"), looks := false }, kinds := [], alts := [], laidByText := true, laidKinds := [.widerDeep], laidTests := true, laidLooks := .later }
def ScriptsGoodUptoCardSaid : Prop := Claim7.holds Tryd.pinned (.plain (OpenSpec.upto scriptsGoodSpec)) scriptsGoodUptoCard

/-- THE SECOND FORM's CARD OF 'winnowertop.TopSwap'. -/
def topSwapUptoCard : Claim7 := { stood := { row := topSwapUptoRow, standIns := [], harness := (true, "515e58ec8e54e93ca249e2992deb68fafd5dfac0a8c0530e92f14749819471e0"), looks := false }, kinds := [], alts := [], laidByText := true, laidKinds := [.widerDeep], laidTests := true, laidLooks := .later }
def TopSwapUptoCardSaid : Prop := Claim7.holds Tryd.pinned (.plain (OpenSpec.upto topSwapSpec)) topSwapUptoCard

/-- THE SECOND FORM's CARD OF 'winnowertop.TopSteps'. -/
def topStepsUptoCard : Claim7 := { stood := { row := topStepsUptoRow, standIns := [], harness := (true, "515e58ec8e54e93ca249e2992deb68fafd5dfac0a8c0530e92f14749819471e0"), looks := false }, kinds := [], alts := [], laidByText := true, laidKinds := [.widerDeep], laidTests := true, laidLooks := .later }
def TopStepsUptoCardSaid : Prop := Claim7.holds Tryd.pinned (.plain (OpenSpec.upto topStepsSpec)) topStepsUptoCard

/-- THE SECOND FORM's CARD OF 'winnowertop.TopBack'. -/
def topBackUptoCard : Claim7 := { stood := { row := topBackUptoRow, standIns := [], harness := (true, "515e58ec8e54e93ca249e2992deb68fafd5dfac0a8c0530e92f14749819471e0"), looks := false }, kinds := [], alts := [], laidByText := true, laidKinds := [.widerDeep], laidTests := true, laidLooks := .later }
def TopBackUptoCardSaid : Prop := Claim7.holds Tryd.pinned (.plain (OpenSpec.upto topBackSpec)) topBackUptoCard

/-- THE SECOND FORM's CARD OF 'winnowertop.TopSaved'. -/
def topSavedUptoCard : Claim7 := { stood := { row := topSavedUptoRow, standIns := [], harness := (true, "515e58ec8e54e93ca249e2992deb68fafd5dfac0a8c0530e92f14749819471e0"), looks := false }, kinds := [], alts := [], laidByText := true, laidKinds := [.widerDeep], laidTests := true, laidLooks := .later }
def TopSavedUptoCardSaid : Prop := Claim7.holds Tryd.pinned (.plain (OpenSpec.upto topSavedSpec)) topSavedUptoCard
end Rows
end Go.Proofs.YtmljjfhgciaceaaDoor
