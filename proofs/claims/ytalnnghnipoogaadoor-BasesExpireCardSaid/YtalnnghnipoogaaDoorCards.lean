/-
  DERIVED. GIVEN WITH THE SEED: THE CARDS: each row of YtalnnghnipoogaaDoorRows.lean that lists a variable, with what it lists TIED to the program's text (the seventh form; the later family's looks); each row that meets fmt, with fmt's text TOLD by the authors' own Lean function (tested against real Go, not proved from fmt's source: count such statements apart). THE CARD IS WHAT COUNTS. Prove the row's statement (the work); the ties are given (YtalnnghnipoogaaDoorTie.lean); close each card by the builder's one call (the guide's Derived/Test/ToyasCard.lean, 'card_holds'). Laid BY PROGRAM, IN A SANDBOX (cutbox-door.mjs). By AI agents, Wed Nov 11 2026. No macro, syntax, notation, axiom, sorry.
-/
import Derived.Test.YtalnnghnipoogaaDoorRows
import GoSem.ClaimSeven
namespace Go.Proofs.YtalnnghnipoogaaDoor
namespace Rows

/-- THE TIED CARD OF 'winnowerlaw.BaseAdds'. -/
def baseAddsCard : Claim7 := { stood := { row := baseAddsRow, standIns := [], harness := (true, "beb52ecfc3568aba1ce856c05114e20bd588bff5d75dd8833b45726a56dc6cdc"), looks := false }, kinds := [], alts := [], laidByText := true, laidKinds := [.widerDeep], laidTests := true, laidLooks := .later }
def BaseAddsCardSaid : Prop := Claim7.holds Tryd.pinned (.plain (OpenSpec.ofChange baseAddsSpec)) baseAddsCard

/-- THE TIED CARD OF 'winnowerkeep.BasesRows'. -/
def basesRowsCard : Claim7 := { stood := { row := basesRowsRow, standIns := [], harness := (true, "beb52ecfc3568aba1ce856c05114e20bd588bff5d75dd8833b45726a56dc6cdc"), looks := false }, kinds := [], alts := [], laidByText := true, laidKinds := [.widerDeep], laidTests := true, laidLooks := .later }
def BasesRowsCardSaid : Prop := Claim7.holds Tryd.pinned (.plain (OpenSpec.ofChange basesRowsSpec)) basesRowsCard

/-- THE TIED CARD OF 'winnowerkeep.BasesTotal'. -/
def basesTotalCard : Claim7 := { stood := { row := basesTotalRow, standIns := [], harness := (true, "beb52ecfc3568aba1ce856c05114e20bd588bff5d75dd8833b45726a56dc6cdc"), looks := false }, kinds := [], alts := [], laidByText := true, laidKinds := [.widerDeep], laidTests := true, laidLooks := .later }
def BasesTotalCardSaid : Prop := Claim7.holds Tryd.pinned (.plain (OpenSpec.ofChange basesTotalSpec)) basesTotalCard

/-- THE TIED CARD OF 'winnowerkeep.BasesAny'. -/
def basesAnyCard : Claim7 := { stood := { row := basesAnyRow, standIns := [], harness := (true, "beb52ecfc3568aba1ce856c05114e20bd588bff5d75dd8833b45726a56dc6cdc"), looks := false }, kinds := [], alts := [], laidByText := true, laidKinds := [.widerDeep], laidTests := true, laidLooks := .later }
def BasesAnyCardSaid : Prop := Claim7.holds Tryd.pinned (.plain (OpenSpec.ofChange basesAnySpec)) basesAnyCard

/-- THE TIED CARD OF 'winnowerkeep.BasesBad'. -/
def basesBadCard : Claim7 := { stood := { row := basesBadRow, standIns := [], harness := (true, "beb52ecfc3568aba1ce856c05114e20bd588bff5d75dd8833b45726a56dc6cdc"), looks := false }, kinds := [], alts := [], laidByText := true, laidKinds := [.widerDeep], laidTests := true, laidLooks := .later }
def BasesBadCardSaid : Prop := Claim7.holds Tryd.pinned (.plain (OpenSpec.ofChange basesBadSpec)) basesBadCard

/-- THE TIED CARD OF 'winnowerkeep.BasesExpire'. -/
def basesExpireCard : Claim7 := { stood := { row := basesExpireRow, standIns := [], harness := (true, "beb52ecfc3568aba1ce856c05114e20bd588bff5d75dd8833b45726a56dc6cdc"), looks := false }, kinds := [], alts := [], laidByText := true, laidKinds := [.widerDeep], laidTests := true, laidLooks := .later }
def BasesExpireCardSaid : Prop := Claim7.holds Tryd.pinned (.plain (OpenSpec.ofChange basesExpireSpec)) basesExpireCard

/-- THE TIED CARD OF 'winnowerkeep.FilesOnce'. -/
def filesOnceCard : Claim7 := { stood := { row := filesOnceRow, standIns := [], harness := (true, "beb52ecfc3568aba1ce856c05114e20bd588bff5d75dd8833b45726a56dc6cdc"), looks := false }, kinds := [], alts := [], laidByText := true, laidKinds := [.widerDeep], laidTests := true, laidLooks := .later }
def FilesOnceCardSaid : Prop := Claim7.holds Tryd.pinned (.plain (OpenSpec.ofChange filesOnceSpec)) filesOnceCard

/-- THE TIED CARD OF 'winnowerkeep.FilesBack'. -/
def filesBackCard : Claim7 := { stood := { row := filesBackRow, standIns := [], harness := (true, "beb52ecfc3568aba1ce856c05114e20bd588bff5d75dd8833b45726a56dc6cdc"), looks := false }, kinds := [], alts := [], laidByText := true, laidKinds := [.widerDeep], laidTests := true, laidLooks := .later }
def FilesBackCardSaid : Prop := Claim7.holds Tryd.pinned (.plain (OpenSpec.ofChange filesBackSpec)) filesBackCard

/-- THE SECOND FORM's CARD OF 'winnowerlaw.BaseAdds'. -/
def baseAddsUptoCard : Claim7 := { stood := { row := baseAddsUptoRow, standIns := [], harness := (true, "beb52ecfc3568aba1ce856c05114e20bd588bff5d75dd8833b45726a56dc6cdc"), looks := false }, kinds := [], alts := [], laidByText := true, laidKinds := [.widerDeep], laidTests := true, laidLooks := .later }
def BaseAddsUptoCardSaid : Prop := Claim7.holds Tryd.pinned (.plain (OpenSpec.upto baseAddsSpec)) baseAddsUptoCard

/-- THE SECOND FORM's CARD OF 'winnowerkeep.BasesRows'. -/
def basesRowsUptoCard : Claim7 := { stood := { row := basesRowsUptoRow, standIns := [], harness := (true, "beb52ecfc3568aba1ce856c05114e20bd588bff5d75dd8833b45726a56dc6cdc"), looks := false }, kinds := [], alts := [], laidByText := true, laidKinds := [.widerDeep], laidTests := true, laidLooks := .later }
def BasesRowsUptoCardSaid : Prop := Claim7.holds Tryd.pinned (.plain (OpenSpec.upto basesRowsSpec)) basesRowsUptoCard

/-- THE SECOND FORM's CARD OF 'winnowerkeep.BasesTotal'. -/
def basesTotalUptoCard : Claim7 := { stood := { row := basesTotalUptoRow, standIns := [], harness := (true, "beb52ecfc3568aba1ce856c05114e20bd588bff5d75dd8833b45726a56dc6cdc"), looks := false }, kinds := [], alts := [], laidByText := true, laidKinds := [.widerDeep], laidTests := true, laidLooks := .later }
def BasesTotalUptoCardSaid : Prop := Claim7.holds Tryd.pinned (.plain (OpenSpec.upto basesTotalSpec)) basesTotalUptoCard

/-- THE SECOND FORM's CARD OF 'winnowerkeep.BasesAny'. -/
def basesAnyUptoCard : Claim7 := { stood := { row := basesAnyUptoRow, standIns := [], harness := (true, "beb52ecfc3568aba1ce856c05114e20bd588bff5d75dd8833b45726a56dc6cdc"), looks := false }, kinds := [], alts := [], laidByText := true, laidKinds := [.widerDeep], laidTests := true, laidLooks := .later }
def BasesAnyUptoCardSaid : Prop := Claim7.holds Tryd.pinned (.plain (OpenSpec.upto basesAnySpec)) basesAnyUptoCard

/-- THE SECOND FORM's CARD OF 'winnowerkeep.BasesBad'. -/
def basesBadUptoCard : Claim7 := { stood := { row := basesBadUptoRow, standIns := [], harness := (true, "beb52ecfc3568aba1ce856c05114e20bd588bff5d75dd8833b45726a56dc6cdc"), looks := false }, kinds := [], alts := [], laidByText := true, laidKinds := [.widerDeep], laidTests := true, laidLooks := .later }
def BasesBadUptoCardSaid : Prop := Claim7.holds Tryd.pinned (.plain (OpenSpec.upto basesBadSpec)) basesBadUptoCard

/-- THE SECOND FORM's CARD OF 'winnowerkeep.BasesExpire'. -/
def basesExpireUptoCard : Claim7 := { stood := { row := basesExpireUptoRow, standIns := [], harness := (true, "beb52ecfc3568aba1ce856c05114e20bd588bff5d75dd8833b45726a56dc6cdc"), looks := false }, kinds := [], alts := [], laidByText := true, laidKinds := [.widerDeep], laidTests := true, laidLooks := .later }
def BasesExpireUptoCardSaid : Prop := Claim7.holds Tryd.pinned (.plain (OpenSpec.upto basesExpireSpec)) basesExpireUptoCard

/-- THE SECOND FORM's CARD OF 'winnowerkeep.FilesOnce'. -/
def filesOnceUptoCard : Claim7 := { stood := { row := filesOnceUptoRow, standIns := [], harness := (true, "beb52ecfc3568aba1ce856c05114e20bd588bff5d75dd8833b45726a56dc6cdc"), looks := false }, kinds := [], alts := [], laidByText := true, laidKinds := [.widerDeep], laidTests := true, laidLooks := .later }
def FilesOnceUptoCardSaid : Prop := Claim7.holds Tryd.pinned (.plain (OpenSpec.upto filesOnceSpec)) filesOnceUptoCard

/-- THE SECOND FORM's CARD OF 'winnowerkeep.FilesBack'. -/
def filesBackUptoCard : Claim7 := { stood := { row := filesBackUptoRow, standIns := [], harness := (true, "beb52ecfc3568aba1ce856c05114e20bd588bff5d75dd8833b45726a56dc6cdc"), looks := false }, kinds := [], alts := [], laidByText := true, laidKinds := [.widerDeep], laidTests := true, laidLooks := .later }
def FilesBackUptoCardSaid : Prop := Claim7.holds Tryd.pinned (.plain (OpenSpec.upto filesBackSpec)) filesBackUptoCard
end Rows
end Go.Proofs.YtalnnghnipoogaaDoor
