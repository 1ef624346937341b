/-
  DERIVED. GIVEN WITH THE SEED: THE CARDS: each row of YtijcaejdgicbmaaDoorRows.lean that lists a variable, with what it lists TIED to the program's text (the seventh form; the later family's looks); each row that meets fmt, with fmt's text TOLD by the authors' own Lean function (tested against real Go, not proved from fmt's source: count such statements apart). THE CARD IS WHAT COUNTS. Prove the row's statement (the work); the ties are given (YtijcaejdgicbmaaDoorTie.lean); close each card by the builder's one call (the guide's Derived/Test/ToyasCard.lean, 'card_holds'). Laid BY PROGRAM, IN A SANDBOX (cutbox-door.mjs). By AI agents, Wed Nov 11 2026. No macro, syntax, notation, axiom, sorry.
-/
import Derived.Test.YtijcaejdgicbmaaDoorRows
import GoSem.ClaimSeven
namespace Go.Proofs.YtijcaejdgicbmaaDoor
namespace Rows

/-- THE TIED CARD OF 'winnowerlaw.BaseChecks'. -/
def baseChecksCard : Claim7 := { stood := { row := baseChecksRow, standIns := [], harness := (true, "cd7f55abd40a643506822a39a0ae8d57bf9b025478a1a12c938a0c8e1be30e10"), looks := false }, kinds := [], alts := [], laidByText := true, laidKinds := [.widerDeep], laidTests := true, laidLooks := .later }
def BaseChecksCardSaid : Prop := Claim7.holds Tryd.pinned (.plain (OpenSpec.ofChange baseChecksSpec)) baseChecksCard

/-- THE TIED CARD OF 'winnowerlaw.BaseRows'. -/
def baseRowsCard : Claim7 := { stood := { row := baseRowsRow, standIns := [], harness := (true, "cd7f55abd40a643506822a39a0ae8d57bf9b025478a1a12c938a0c8e1be30e10"), looks := false }, kinds := [], alts := [], laidByText := true, laidKinds := [.widerDeep], laidTests := true, laidLooks := .later }
def BaseRowsCardSaid : Prop := Claim7.holds Tryd.pinned (.plain (OpenSpec.ofChange baseRowsSpec)) baseRowsCard

/-- THE TIED CARD OF 'winnowerlaw.FileEncodes'. -/
def fileEncodesCard : Claim7 := { stood := { row := fileEncodesRow, standIns := [], harness := (true, "cd7f55abd40a643506822a39a0ae8d57bf9b025478a1a12c938a0c8e1be30e10"), looks := false }, kinds := [], alts := [], laidByText := true, laidKinds := [.widerDeep], laidTests := true, laidLooks := .later }
def FileEncodesCardSaid : Prop := Claim7.holds Tryd.pinned (.plain (OpenSpec.ofChange fileEncodesSpec)) fileEncodesCard

/-- THE TIED CARD OF 'winnowerlaw.BaseTotals'. -/
def baseTotalsCard : Claim7 := { stood := { row := baseTotalsRow, standIns := [], harness := (true, "cd7f55abd40a643506822a39a0ae8d57bf9b025478a1a12c938a0c8e1be30e10"), looks := false }, kinds := [], alts := [], laidByText := true, laidKinds := [.widerDeep], laidTests := true, laidLooks := .later }
def BaseTotalsCardSaid : Prop := Claim7.holds Tryd.pinned (.plain (OpenSpec.ofChange baseTotalsSpec)) baseTotalsCard

/-- THE TIED CARD OF 'winnowerlaw.BaseAdds'. -/
def baseAddsCard : Claim7 := { stood := { row := baseAddsRow, standIns := [], harness := (true, "cd7f55abd40a643506822a39a0ae8d57bf9b025478a1a12c938a0c8e1be30e10"), looks := false }, kinds := [], alts := [], laidByText := true, laidKinds := [.widerDeep], laidTests := true, laidLooks := .later }
def BaseAddsCardSaid : Prop := Claim7.holds Tryd.pinned (.plain (OpenSpec.ofChange baseAddsSpec)) baseAddsCard

/-- THE TIED CARD OF 'winnowerlaw.BaseExpires'. -/
def baseExpiresCard : Claim7 := { stood := { row := baseExpiresRow, standIns := [], harness := (true, "cd7f55abd40a643506822a39a0ae8d57bf9b025478a1a12c938a0c8e1be30e10"), looks := false }, kinds := [], alts := [], laidByText := true, laidKinds := [.widerDeep], laidTests := true, laidLooks := .later }
def BaseExpiresCardSaid : Prop := Claim7.holds Tryd.pinned (.plain (OpenSpec.ofChange baseExpiresSpec)) baseExpiresCard

/-- THE SECOND FORM's CARD OF 'winnowerlaw.BaseChecks'. -/
def baseChecksUptoCard : Claim7 := { stood := { row := baseChecksUptoRow, standIns := [], harness := (true, "cd7f55abd40a643506822a39a0ae8d57bf9b025478a1a12c938a0c8e1be30e10"), looks := false }, kinds := [], alts := [], laidByText := true, laidKinds := [.widerDeep], laidTests := true, laidLooks := .later }
def BaseChecksUptoCardSaid : Prop := Claim7.holds Tryd.pinned (.plain (OpenSpec.upto baseChecksSpec)) baseChecksUptoCard

/-- THE SECOND FORM's CARD OF 'winnowerlaw.BaseRows'. -/
def baseRowsUptoCard : Claim7 := { stood := { row := baseRowsUptoRow, standIns := [], harness := (true, "cd7f55abd40a643506822a39a0ae8d57bf9b025478a1a12c938a0c8e1be30e10"), looks := false }, kinds := [], alts := [], laidByText := true, laidKinds := [.widerDeep], laidTests := true, laidLooks := .later }
def BaseRowsUptoCardSaid : Prop := Claim7.holds Tryd.pinned (.plain (OpenSpec.upto baseRowsSpec)) baseRowsUptoCard

/-- THE SECOND FORM's CARD OF 'winnowerlaw.FileEncodes'. -/
def fileEncodesUptoCard : Claim7 := { stood := { row := fileEncodesUptoRow, standIns := [], harness := (true, "cd7f55abd40a643506822a39a0ae8d57bf9b025478a1a12c938a0c8e1be30e10"), looks := false }, kinds := [], alts := [], laidByText := true, laidKinds := [.widerDeep], laidTests := true, laidLooks := .later }
def FileEncodesUptoCardSaid : Prop := Claim7.holds Tryd.pinned (.plain (OpenSpec.upto fileEncodesSpec)) fileEncodesUptoCard

/-- THE SECOND FORM's CARD OF 'winnowerlaw.BaseTotals'. -/
def baseTotalsUptoCard : Claim7 := { stood := { row := baseTotalsUptoRow, standIns := [], harness := (true, "cd7f55abd40a643506822a39a0ae8d57bf9b025478a1a12c938a0c8e1be30e10"), looks := false }, kinds := [], alts := [], laidByText := true, laidKinds := [.widerDeep], laidTests := true, laidLooks := .later }
def BaseTotalsUptoCardSaid : Prop := Claim7.holds Tryd.pinned (.plain (OpenSpec.upto baseTotalsSpec)) baseTotalsUptoCard

/-- THE SECOND FORM's CARD OF 'winnowerlaw.BaseAdds'. -/
def baseAddsUptoCard : Claim7 := { stood := { row := baseAddsUptoRow, standIns := [], harness := (true, "cd7f55abd40a643506822a39a0ae8d57bf9b025478a1a12c938a0c8e1be30e10"), looks := false }, kinds := [], alts := [], laidByText := true, laidKinds := [.widerDeep], laidTests := true, laidLooks := .later }
def BaseAddsUptoCardSaid : Prop := Claim7.holds Tryd.pinned (.plain (OpenSpec.upto baseAddsSpec)) baseAddsUptoCard

/-- THE SECOND FORM's CARD OF 'winnowerlaw.BaseExpires'. -/
def baseExpiresUptoCard : Claim7 := { stood := { row := baseExpiresUptoRow, standIns := [], harness := (true, "cd7f55abd40a643506822a39a0ae8d57bf9b025478a1a12c938a0c8e1be30e10"), looks := false }, kinds := [], alts := [], laidByText := true, laidKinds := [.widerDeep], laidTests := true, laidLooks := .later }
def BaseExpiresUptoCardSaid : Prop := Claim7.holds Tryd.pinned (.plain (OpenSpec.upto baseExpiresSpec)) baseExpiresUptoCard
end Rows
end Go.Proofs.YtijcaejdgicbmaaDoor
