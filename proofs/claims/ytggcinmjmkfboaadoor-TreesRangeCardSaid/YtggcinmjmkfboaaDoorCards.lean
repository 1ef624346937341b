/-
  DERIVED. GIVEN WITH THE SEED: THE CARDS: each row of YtggcinmjmkfboaaDoorRows.lean that lists a variable, with what it lists TIED to the program's text (the seventh form; the later family's looks); each row that meets fmt, with fmt's text TOLD by the authors' own Lean function (tested against real Go, not proved from fmt's source: count such statements apart). THE CARD IS WHAT COUNTS. Prove the row's statement (the work); the ties are given (YtggcinmjmkfboaaDoorTie.lean); close each card by the builder's one call (the guide's Derived/Test/ToyasCard.lean, 'card_holds'). Laid BY PROGRAM, IN A SANDBOX (cutbox-door.mjs). By AI agents, Wed Nov 11 2026. No macro, syntax, notation, axiom, sorry.
-/
import Derived.Test.YtggcinmjmkfboaaDoorRows
import GoSem.ClaimSeven
namespace Go.Proofs.YtggcinmjmkfboaaDoor
namespace Rows

/-- THE TIED CARD OF 'winnowerkeep.MergesAgree'. -/
def mergesAgreeCard : Claim7 := { stood := { row := mergesAgreeRow, standIns := [], harness := (true, "42da376a178924d2bc79ead04545e993fff798e73f4d62c165289841916505a4"), looks := false }, kinds := [], alts := [], laidByText := true, laidKinds := [.widerDeep], laidTests := true, laidLooks := .later }
def MergesAgreeCardSaid : Prop := Claim7.holds Tryd.pinned (.plain (OpenSpec.ofChange mergesAgreeSpec)) mergesAgreeCard

/-- THE TIED CARD OF 'winnowerkeep.TreesApart'. -/
def treesApartCard : Claim7 := { stood := { row := treesApartRow, standIns := [], harness := (true, "42da376a178924d2bc79ead04545e993fff798e73f4d62c165289841916505a4"), looks := false }, kinds := [], alts := [], laidByText := true, laidKinds := [.widerDeep], laidTests := true, laidLooks := .later }
def TreesApartCardSaid : Prop := Claim7.holds Tryd.pinned (.plain (OpenSpec.ofChange treesApartSpec)) treesApartCard

/-- THE TIED CARD OF 'winnowerkeep.TreesDeep'. -/
def treesDeepCard : Claim7 := { stood := { row := treesDeepRow, standIns := [], harness := (true, "42da376a178924d2bc79ead04545e993fff798e73f4d62c165289841916505a4"), looks := false }, kinds := [], alts := [], laidByText := true, laidKinds := [.widerDeep], laidTests := true, laidLooks := .later }
def TreesDeepCardSaid : Prop := Claim7.holds Tryd.pinned (.plain (OpenSpec.ofChange treesDeepSpec)) treesDeepCard

/-- THE TIED CARD OF 'winnowerkeep.TreesOf'. -/
def treesOfCard : Claim7 := { stood := { row := treesOfRow, standIns := [], harness := (true, "42da376a178924d2bc79ead04545e993fff798e73f4d62c165289841916505a4"), looks := false }, kinds := [], alts := [], laidByText := true, laidKinds := [.widerDeep], laidTests := true, laidLooks := .later }
def TreesOfCardSaid : Prop := Claim7.holds Tryd.pinned (.plain (OpenSpec.ofChange treesOfSpec)) treesOfCard

/-- THE TIED CARD OF 'winnowerkeep.BasesRows'. -/
def basesRowsCard : Claim7 := { stood := { row := basesRowsRow, standIns := [], harness := (true, "42da376a178924d2bc79ead04545e993fff798e73f4d62c165289841916505a4"), looks := false }, kinds := [], alts := [], laidByText := true, laidKinds := [.widerDeep], laidTests := true, laidLooks := .later }
def BasesRowsCardSaid : Prop := Claim7.holds Tryd.pinned (.plain (OpenSpec.ofChange basesRowsSpec)) basesRowsCard

/-- THE TIED CARD OF 'winnowerkeep.BasesTotal'. -/
def basesTotalCard : Claim7 := { stood := { row := basesTotalRow, standIns := [], harness := (true, "42da376a178924d2bc79ead04545e993fff798e73f4d62c165289841916505a4"), looks := false }, kinds := [], alts := [], laidByText := true, laidKinds := [.widerDeep], laidTests := true, laidLooks := .later }
def BasesTotalCardSaid : Prop := Claim7.holds Tryd.pinned (.plain (OpenSpec.ofChange basesTotalSpec)) basesTotalCard

/-- THE TIED CARD OF 'winnowerkeep.BasesAny'. -/
def basesAnyCard : Claim7 := { stood := { row := basesAnyRow, standIns := [], harness := (true, "42da376a178924d2bc79ead04545e993fff798e73f4d62c165289841916505a4"), looks := false }, kinds := [], alts := [], laidByText := true, laidKinds := [.widerDeep], laidTests := true, laidLooks := .later }
def BasesAnyCardSaid : Prop := Claim7.holds Tryd.pinned (.plain (OpenSpec.ofChange basesAnySpec)) basesAnyCard

/-- THE TIED CARD OF 'winnowerkeep.BasesBad'. -/
def basesBadCard : Claim7 := { stood := { row := basesBadRow, standIns := [], harness := (true, "42da376a178924d2bc79ead04545e993fff798e73f4d62c165289841916505a4"), looks := false }, kinds := [], alts := [], laidByText := true, laidKinds := [.widerDeep], laidTests := true, laidLooks := .later }
def BasesBadCardSaid : Prop := Claim7.holds Tryd.pinned (.plain (OpenSpec.ofChange basesBadSpec)) basesBadCard

/-- THE TIED CARD OF 'winnowerkeep.BasesExpire'. -/
def basesExpireCard : Claim7 := { stood := { row := basesExpireRow, standIns := [], harness := (true, "42da376a178924d2bc79ead04545e993fff798e73f4d62c165289841916505a4"), looks := false }, kinds := [], alts := [], laidByText := true, laidKinds := [.widerDeep], laidTests := true, laidLooks := .later }
def BasesExpireCardSaid : Prop := Claim7.holds Tryd.pinned (.plain (OpenSpec.ofChange basesExpireSpec)) basesExpireCard

/-- THE TIED CARD OF 'winnowerkeep.TreesRange'. -/
def treesRangeCard : Claim7 := { stood := { row := treesRangeRow, standIns := [], harness := (true, "42da376a178924d2bc79ead04545e993fff798e73f4d62c165289841916505a4"), looks := false }, kinds := [], alts := [], laidByText := true, laidKinds := [.widerDeep], laidTests := true, laidLooks := .later }
def TreesRangeCardSaid : Prop := Claim7.holds Tryd.pinned (.plain (OpenSpec.ofChange treesRangeSpec)) treesRangeCard

/-- THE SECOND FORM's CARD OF 'winnowerkeep.MergesAgree'. -/
def mergesAgreeUptoCard : Claim7 := { stood := { row := mergesAgreeUptoRow, standIns := [], harness := (true, "42da376a178924d2bc79ead04545e993fff798e73f4d62c165289841916505a4"), looks := false }, kinds := [], alts := [], laidByText := true, laidKinds := [.widerDeep], laidTests := true, laidLooks := .later }
def MergesAgreeUptoCardSaid : Prop := Claim7.holds Tryd.pinned (.plain (OpenSpec.upto mergesAgreeSpec)) mergesAgreeUptoCard

/-- THE SECOND FORM's CARD OF 'winnowerkeep.TreesApart'. -/
def treesApartUptoCard : Claim7 := { stood := { row := treesApartUptoRow, standIns := [], harness := (true, "42da376a178924d2bc79ead04545e993fff798e73f4d62c165289841916505a4"), looks := false }, kinds := [], alts := [], laidByText := true, laidKinds := [.widerDeep], laidTests := true, laidLooks := .later }
def TreesApartUptoCardSaid : Prop := Claim7.holds Tryd.pinned (.plain (OpenSpec.upto treesApartSpec)) treesApartUptoCard

/-- THE SECOND FORM's CARD OF 'winnowerkeep.TreesDeep'. -/
def treesDeepUptoCard : Claim7 := { stood := { row := treesDeepUptoRow, standIns := [], harness := (true, "42da376a178924d2bc79ead04545e993fff798e73f4d62c165289841916505a4"), looks := false }, kinds := [], alts := [], laidByText := true, laidKinds := [.widerDeep], laidTests := true, laidLooks := .later }
def TreesDeepUptoCardSaid : Prop := Claim7.holds Tryd.pinned (.plain (OpenSpec.upto treesDeepSpec)) treesDeepUptoCard

/-- THE SECOND FORM's CARD OF 'winnowerkeep.TreesOf'. -/
def treesOfUptoCard : Claim7 := { stood := { row := treesOfUptoRow, standIns := [], harness := (true, "42da376a178924d2bc79ead04545e993fff798e73f4d62c165289841916505a4"), looks := false }, kinds := [], alts := [], laidByText := true, laidKinds := [.widerDeep], laidTests := true, laidLooks := .later }
def TreesOfUptoCardSaid : Prop := Claim7.holds Tryd.pinned (.plain (OpenSpec.upto treesOfSpec)) treesOfUptoCard

/-- THE SECOND FORM's CARD OF 'winnowerkeep.BasesRows'. -/
def basesRowsUptoCard : Claim7 := { stood := { row := basesRowsUptoRow, standIns := [], harness := (true, "42da376a178924d2bc79ead04545e993fff798e73f4d62c165289841916505a4"), looks := false }, kinds := [], alts := [], laidByText := true, laidKinds := [.widerDeep], laidTests := true, laidLooks := .later }
def BasesRowsUptoCardSaid : Prop := Claim7.holds Tryd.pinned (.plain (OpenSpec.upto basesRowsSpec)) basesRowsUptoCard

/-- THE SECOND FORM's CARD OF 'winnowerkeep.BasesTotal'. -/
def basesTotalUptoCard : Claim7 := { stood := { row := basesTotalUptoRow, standIns := [], harness := (true, "42da376a178924d2bc79ead04545e993fff798e73f4d62c165289841916505a4"), looks := false }, kinds := [], alts := [], laidByText := true, laidKinds := [.widerDeep], laidTests := true, laidLooks := .later }
def BasesTotalUptoCardSaid : Prop := Claim7.holds Tryd.pinned (.plain (OpenSpec.upto basesTotalSpec)) basesTotalUptoCard

/-- THE SECOND FORM's CARD OF 'winnowerkeep.BasesAny'. -/
def basesAnyUptoCard : Claim7 := { stood := { row := basesAnyUptoRow, standIns := [], harness := (true, "42da376a178924d2bc79ead04545e993fff798e73f4d62c165289841916505a4"), looks := false }, kinds := [], alts := [], laidByText := true, laidKinds := [.widerDeep], laidTests := true, laidLooks := .later }
def BasesAnyUptoCardSaid : Prop := Claim7.holds Tryd.pinned (.plain (OpenSpec.upto basesAnySpec)) basesAnyUptoCard

/-- THE SECOND FORM's CARD OF 'winnowerkeep.BasesBad'. -/
def basesBadUptoCard : Claim7 := { stood := { row := basesBadUptoRow, standIns := [], harness := (true, "42da376a178924d2bc79ead04545e993fff798e73f4d62c165289841916505a4"), looks := false }, kinds := [], alts := [], laidByText := true, laidKinds := [.widerDeep], laidTests := true, laidLooks := .later }
def BasesBadUptoCardSaid : Prop := Claim7.holds Tryd.pinned (.plain (OpenSpec.upto basesBadSpec)) basesBadUptoCard

/-- THE SECOND FORM's CARD OF 'winnowerkeep.BasesExpire'. -/
def basesExpireUptoCard : Claim7 := { stood := { row := basesExpireUptoRow, standIns := [], harness := (true, "42da376a178924d2bc79ead04545e993fff798e73f4d62c165289841916505a4"), looks := false }, kinds := [], alts := [], laidByText := true, laidKinds := [.widerDeep], laidTests := true, laidLooks := .later }
def BasesExpireUptoCardSaid : Prop := Claim7.holds Tryd.pinned (.plain (OpenSpec.upto basesExpireSpec)) basesExpireUptoCard

/-- THE SECOND FORM's CARD OF 'winnowerkeep.TreesRange'. -/
def treesRangeUptoCard : Claim7 := { stood := { row := treesRangeUptoRow, standIns := [], harness := (true, "42da376a178924d2bc79ead04545e993fff798e73f4d62c165289841916505a4"), looks := false }, kinds := [], alts := [], laidByText := true, laidKinds := [.widerDeep], laidTests := true, laidLooks := .later }
def TreesRangeUptoCardSaid : Prop := Claim7.holds Tryd.pinned (.plain (OpenSpec.upto treesRangeSpec)) treesRangeUptoCard
end Rows
end Go.Proofs.YtggcinmjmkfboaaDoor
