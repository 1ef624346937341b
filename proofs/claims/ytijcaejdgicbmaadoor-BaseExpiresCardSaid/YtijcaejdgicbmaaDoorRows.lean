/-
  NARROWER THAN 'FOR EVERY INPUT', by the rows' own cells (each row's printed sentence says how): BaseChecks: laid · BaseRows: laid · FileEncodes: laid · BaseTotals: laid · BaseAdds: laid · BaseExpires: laid.
  DERIVED. THE GIVEN ROWS OF THIS SEAT. 6 by the template 'for every input the law returns true; each argument reads behind the call as it read before'; 0 by the template 'total and deterministic' (their statements: YtijcaejdgicbmaaDoorTotals.lean).
  GIVEN WITH THE SEED: the statements are not yours to turn. If you find one false, say at which input.
  Laid BY PROGRAM, IN A SANDBOX (cutbox-rows.mjs): the forced cells as the released guide's own fill.sh prints them over the translation d70a7190eca7f9a3… (all of the seat's roots in one cut). By AI agents, Wed Nov 11 2026. No macro, syntax, notation, axiom, sorry.
-/
import Derived.Test.YtijcaejdgicbmaaDoorChecked
import GoSem.Claim
import GoSem.ClaimJoined
import GoSem.ClaimMapViews
import Derived.JoinedTies
import Derived.KernelRfl
namespace Go.Proofs.YtijcaejdgicbmaaDoor
/- THE CELL 'sum', in the pinned program and in every row, IS THE sha256 OF THE DUMP (.gsa) THAT YtijcaejdgicbmaaDoorProg.lean LOADS. Nothing in Lean hashes anything: it is a label: what it is worth is what the hold of that sum in a sandbox is worth. -/
noncomputable def Tryd.pinned : Pinned := { name := "ytijcaejdgicbmaadoor", sum := "d70a7190eca7f9a35215dc0ffaa78bde9aa858acdd820f721df3c7e4f3c099d9", checked := Tryd.checked }
namespace Rows
def none {H : Type} : Left H := { results := [], args := [] }

/- WHAT THE LISTED PACKAGE-LEVEL VARIABLES READ AS WHEN THE CALL BEGINS. Each datum BY PROGRAM (the guide's laid-datum.mjs) off the statement by which the dump's own 'gosem.cut.vars' lays the variable. In a bare row this is a premise. The card (YtijcaejdgicbmaaDoorCards.lean) ties it to the program's text. -/
def laid_winnower_base_sizes {H : Type} : DataW H := .agg [.lit (.int .i64 1), .lit (.int .i64 60), .lit (.int .i64 3600)]

/-- 'winnowerlaw.BaseChecks': WHATEVER THE INPUT: true; the input reads as it did. -/
def baseChecksSpec : ChangeSpec := { name := "baseChecks", fn := fun _ => fun
  | [d] => { results := [.lit (.bool true)], args := [d] }
  | _ => none }
def baseChecksRow : OpenClaim := { program := "ytijcaejdgicbmaadoor", sum := "d70a7190eca7f9a35215dc0ffaa78bde9aa858acdd820f721df3c7e4f3c099d9", func := "winnower/winnowerlaw.BaseChecks", spec := "baseChecks", inPlace := ["slices.overlaps[winnower/api.Entry]"], unfollowed := true, recurses := true, named := ["winnower/base.sizes"], apart := false, laid := [("winnower/base.sizes", laid_winnower_base_sizes)] }
def BaseChecksSaid : Prop := baseChecksRow.holds Tryd.pinned (OpenSpec.ofChange baseChecksSpec)

/-- ITS FALSE NEIGHBOUR: 'it returns false'. Refute it at one input. -/
def baseChecksWrong : ChangeSpec := { name := "baseChecks", fn := fun _ => fun
  | [d] => { results := [.lit (.bool false)], args := [d] }
  | _ => none }
def BaseChecksWrongFalsely : Prop := baseChecksRow.holds Tryd.pinned (OpenSpec.ofChange baseChecksWrong)

/-- 'winnowerlaw.BaseRows': WHATEVER THE INPUT: true; the input reads as it did. -/
def baseRowsSpec : ChangeSpec := { name := "baseRows", fn := fun _ => fun
  | [d1, d2, d3, d4, d5] => { results := [.lit (.bool true)], args := [d1, d2, d3, d4, d5] }
  | _ => none }
def baseRowsRow : OpenClaim := { program := "ytijcaejdgicbmaadoor", sum := "d70a7190eca7f9a35215dc0ffaa78bde9aa858acdd820f721df3c7e4f3c099d9", func := "winnower/winnowerlaw.BaseRows", spec := "baseRows", inPlace := ["slices.overlaps[winnower/api.Entry]"], unfollowed := true, recurses := true, named := ["winnower/base.sizes"], apart := false, laid := [("winnower/base.sizes", laid_winnower_base_sizes)] }
def BaseRowsSaid : Prop := baseRowsRow.holds Tryd.pinned (OpenSpec.ofChange baseRowsSpec)

/-- ITS FALSE NEIGHBOUR: 'it returns false'. Refute it at one input. -/
def baseRowsWrong : ChangeSpec := { name := "baseRows", fn := fun _ => fun
  | [d1, d2, d3, d4, d5] => { results := [.lit (.bool false)], args := [d1, d2, d3, d4, d5] }
  | _ => none }
def BaseRowsWrongFalsely : Prop := baseRowsRow.holds Tryd.pinned (OpenSpec.ofChange baseRowsWrong)

/-- 'winnowerlaw.FileEncodes': WHATEVER THE INPUT: true; the input reads as it did. -/
def fileEncodesSpec : ChangeSpec := { name := "fileEncodes", fn := fun _ => fun
  | [d] => { results := [.lit (.bool true)], args := [d] }
  | _ => none }
def fileEncodesRow : OpenClaim := { program := "ytijcaejdgicbmaadoor", sum := "d70a7190eca7f9a35215dc0ffaa78bde9aa858acdd820f721df3c7e4f3c099d9", func := "winnower/winnowerlaw.FileEncodes", spec := "fileEncodes", inPlace := ["slices.overlaps[winnower/api.Entry]"], unfollowed := true, recurses := true, named := ["winnower/base.sizes"], apart := false, laid := [("winnower/base.sizes", laid_winnower_base_sizes)] }
def FileEncodesSaid : Prop := fileEncodesRow.holds Tryd.pinned (OpenSpec.ofChange fileEncodesSpec)

/-- ITS FALSE NEIGHBOUR: 'it returns false'. Refute it at one input. -/
def fileEncodesWrong : ChangeSpec := { name := "fileEncodes", fn := fun _ => fun
  | [d] => { results := [.lit (.bool false)], args := [d] }
  | _ => none }
def FileEncodesWrongFalsely : Prop := fileEncodesRow.holds Tryd.pinned (OpenSpec.ofChange fileEncodesWrong)

/-- 'winnowerlaw.BaseTotals': WHATEVER THE INPUT: true; the input reads as it did. -/
def baseTotalsSpec : ChangeSpec := { name := "baseTotals", fn := fun _ => fun
  | [d1, d2, d3, d4] => { results := [.lit (.bool true)], args := [d1, d2, d3, d4] }
  | _ => none }
def baseTotalsRow : OpenClaim := { program := "ytijcaejdgicbmaadoor", sum := "d70a7190eca7f9a35215dc0ffaa78bde9aa858acdd820f721df3c7e4f3c099d9", func := "winnower/winnowerlaw.BaseTotals", spec := "baseTotals", inPlace := ["slices.overlaps[winnower/api.Entry]"], unfollowed := true, recurses := true, named := ["winnower/base.sizes"], apart := false, laid := [("winnower/base.sizes", laid_winnower_base_sizes)] }
def BaseTotalsSaid : Prop := baseTotalsRow.holds Tryd.pinned (OpenSpec.ofChange baseTotalsSpec)

/-- ITS FALSE NEIGHBOUR: 'it returns false'. Refute it at one input. -/
def baseTotalsWrong : ChangeSpec := { name := "baseTotals", fn := fun _ => fun
  | [d1, d2, d3, d4] => { results := [.lit (.bool false)], args := [d1, d2, d3, d4] }
  | _ => none }
def BaseTotalsWrongFalsely : Prop := baseTotalsRow.holds Tryd.pinned (OpenSpec.ofChange baseTotalsWrong)

/-- 'winnowerlaw.BaseAdds': WHATEVER THE INPUT: true; the input reads as it did. -/
def baseAddsSpec : ChangeSpec := { name := "baseAdds", fn := fun _ => fun
  | [d1, d2] => { results := [.lit (.bool true)], args := [d1, d2] }
  | _ => none }
def baseAddsRow : OpenClaim := { program := "ytijcaejdgicbmaadoor", sum := "d70a7190eca7f9a35215dc0ffaa78bde9aa858acdd820f721df3c7e4f3c099d9", func := "winnower/winnowerlaw.BaseAdds", spec := "baseAdds", inPlace := ["slices.overlaps[winnower/api.Entry]", "slices.overlaps[int]"], unfollowed := true, recurses := true, named := ["winnower/base.sizes"], apart := false, laid := [("winnower/base.sizes", laid_winnower_base_sizes)] }
def BaseAddsSaid : Prop := baseAddsRow.holds Tryd.pinned (OpenSpec.ofChange baseAddsSpec)

/-- ITS FALSE NEIGHBOUR: 'it returns false'. Refute it at one input. -/
def baseAddsWrong : ChangeSpec := { name := "baseAdds", fn := fun _ => fun
  | [d1, d2] => { results := [.lit (.bool false)], args := [d1, d2] }
  | _ => none }
def BaseAddsWrongFalsely : Prop := baseAddsRow.holds Tryd.pinned (OpenSpec.ofChange baseAddsWrong)

/-- 'winnowerlaw.BaseExpires': WHATEVER THE INPUT: true; the input reads as it did. -/
def baseExpiresSpec : ChangeSpec := { name := "baseExpires", fn := fun _ => fun
  | [d1, d2] => { results := [.lit (.bool true)], args := [d1, d2] }
  | _ => none }
def baseExpiresRow : OpenClaim := { program := "ytijcaejdgicbmaadoor", sum := "d70a7190eca7f9a35215dc0ffaa78bde9aa858acdd820f721df3c7e4f3c099d9", func := "winnower/winnowerlaw.BaseExpires", spec := "baseExpires", inPlace := ["slices.overlaps[winnower/api.Entry]", "slices.overlaps[int]"], unfollowed := true, recurses := true, named := ["winnower/base.sizes"], apart := false, laid := [("winnower/base.sizes", laid_winnower_base_sizes)] }
def BaseExpiresSaid : Prop := baseExpiresRow.holds Tryd.pinned (OpenSpec.ofChange baseExpiresSpec)

/-- ITS FALSE NEIGHBOUR: 'it returns false'. Refute it at one input. -/
def baseExpiresWrong : ChangeSpec := { name := "baseExpires", fn := fun _ => fun
  | [d1, d2] => { results := [.lit (.bool false)], args := [d1, d2] }
  | _ => none }
def BaseExpiresWrongFalsely : Prop := baseExpiresRow.holds Tryd.pinned (OpenSpec.ofChange baseExpiresWrong)

/- THE SECOND FORM. 'bulk': how many values and letters a reading holds, each counted each time it is reached (what is shared counts as often as it is met; a slice's spare places count too). A statement '..UptoSaid' is the law's where the arguments, and the package variables that the reading takes, are together of bulk at most 1048576: NARROWER than '..Said'. Prove '..Said' where nothing that the law and all that it calls make is longer than what came in: it says more and counts as full. Else prove '..UptoSaid'. A law counts once. -/
mutual
def uptoBulk {H : Type} : DataW H → Nat
  | .lit (.string bytes) => bytes.length + 1
  | .lit _ => 1
  | .nil => 1
  | .ptr d => uptoBulk d + 1
  | .slice elems spare => uptoBulkAll elems + uptoBulkAll spare + 1
  | .agg parts => uptoBulkAll parts + 1
  | .iface _ d => uptoBulk d + 1
  | .map entries => uptoBulkEntries entries + 1
  | .held _ => 1
def uptoBulkAll {H : Type} : List (DataW H) → Nat
  | [] => 0
  | d :: r => uptoBulk d + uptoBulkAll r
def uptoBulkEntries {H : Type} : List (Lit × DataW H) → Nat
  | [] => 0
  | x :: r => uptoBulkEntry x + uptoBulkEntries r
def uptoBulkEntry {H : Type} : Lit × DataW H → Nat
  | (.string bytes, d) => bytes.length + uptoBulk d + 1
  | (_, d) => uptoBulk d + 1
 end
def uptoSmall : (H : Type) → List (DataW H) → Bool := fun _ ds => decide (uptoBulkAll ds ≤ 1048576)
def OpenSpec.upto (s : _root_.Go.ChangeSpec) : _root_.Go.OpenSpec := { _root_.Go.OpenSpec.ofChange s with cond := some uptoSmall }

/-- 'winnowerlaw.BaseChecks', WHERE WHAT IT READS IS OF BULK AT MOST 1048576: true; the input reads as it did. -/
def baseChecksUptoRow : OpenClaim := { program := "ytijcaejdgicbmaadoor", sum := "d70a7190eca7f9a35215dc0ffaa78bde9aa858acdd820f721df3c7e4f3c099d9", func := "winnower/winnowerlaw.BaseChecks", spec := "baseChecks", inPlace := ["slices.overlaps[winnower/api.Entry]"], unfollowed := true, recurses := true, named := ["winnower/base.sizes"], apart := false, laid := [("winnower/base.sizes", laid_winnower_base_sizes)], narrowed := true }
def BaseChecksUptoSaid : Prop := baseChecksUptoRow.holds Tryd.pinned (OpenSpec.upto baseChecksSpec)

/-- 'winnowerlaw.BaseRows', WHERE WHAT IT READS IS OF BULK AT MOST 1048576: true; the input reads as it did. -/
def baseRowsUptoRow : OpenClaim := { program := "ytijcaejdgicbmaadoor", sum := "d70a7190eca7f9a35215dc0ffaa78bde9aa858acdd820f721df3c7e4f3c099d9", func := "winnower/winnowerlaw.BaseRows", spec := "baseRows", inPlace := ["slices.overlaps[winnower/api.Entry]"], unfollowed := true, recurses := true, named := ["winnower/base.sizes"], apart := false, laid := [("winnower/base.sizes", laid_winnower_base_sizes)], narrowed := true }
def BaseRowsUptoSaid : Prop := baseRowsUptoRow.holds Tryd.pinned (OpenSpec.upto baseRowsSpec)

/-- 'winnowerlaw.FileEncodes', WHERE WHAT IT READS IS OF BULK AT MOST 1048576: true; the input reads as it did. -/
def fileEncodesUptoRow : OpenClaim := { program := "ytijcaejdgicbmaadoor", sum := "d70a7190eca7f9a35215dc0ffaa78bde9aa858acdd820f721df3c7e4f3c099d9", func := "winnower/winnowerlaw.FileEncodes", spec := "fileEncodes", inPlace := ["slices.overlaps[winnower/api.Entry]"], unfollowed := true, recurses := true, named := ["winnower/base.sizes"], apart := false, laid := [("winnower/base.sizes", laid_winnower_base_sizes)], narrowed := true }
def FileEncodesUptoSaid : Prop := fileEncodesUptoRow.holds Tryd.pinned (OpenSpec.upto fileEncodesSpec)

/-- 'winnowerlaw.BaseTotals', WHERE WHAT IT READS IS OF BULK AT MOST 1048576: true; the input reads as it did. -/
def baseTotalsUptoRow : OpenClaim := { program := "ytijcaejdgicbmaadoor", sum := "d70a7190eca7f9a35215dc0ffaa78bde9aa858acdd820f721df3c7e4f3c099d9", func := "winnower/winnowerlaw.BaseTotals", spec := "baseTotals", inPlace := ["slices.overlaps[winnower/api.Entry]"], unfollowed := true, recurses := true, named := ["winnower/base.sizes"], apart := false, laid := [("winnower/base.sizes", laid_winnower_base_sizes)], narrowed := true }
def BaseTotalsUptoSaid : Prop := baseTotalsUptoRow.holds Tryd.pinned (OpenSpec.upto baseTotalsSpec)

/-- 'winnowerlaw.BaseAdds', WHERE WHAT IT READS IS OF BULK AT MOST 1048576: true; the input reads as it did. -/
def baseAddsUptoRow : OpenClaim := { program := "ytijcaejdgicbmaadoor", sum := "d70a7190eca7f9a35215dc0ffaa78bde9aa858acdd820f721df3c7e4f3c099d9", func := "winnower/winnowerlaw.BaseAdds", spec := "baseAdds", inPlace := ["slices.overlaps[winnower/api.Entry]", "slices.overlaps[int]"], unfollowed := true, recurses := true, named := ["winnower/base.sizes"], apart := false, laid := [("winnower/base.sizes", laid_winnower_base_sizes)], narrowed := true }
def BaseAddsUptoSaid : Prop := baseAddsUptoRow.holds Tryd.pinned (OpenSpec.upto baseAddsSpec)

/-- 'winnowerlaw.BaseExpires', WHERE WHAT IT READS IS OF BULK AT MOST 1048576: true; the input reads as it did. -/
def baseExpiresUptoRow : OpenClaim := { program := "ytijcaejdgicbmaadoor", sum := "d70a7190eca7f9a35215dc0ffaa78bde9aa858acdd820f721df3c7e4f3c099d9", func := "winnower/winnowerlaw.BaseExpires", spec := "baseExpires", inPlace := ["slices.overlaps[winnower/api.Entry]", "slices.overlaps[int]"], unfollowed := true, recurses := true, named := ["winnower/base.sizes"], apart := false, laid := [("winnower/base.sizes", laid_winnower_base_sizes)], narrowed := true }
def BaseExpiresUptoSaid : Prop := baseExpiresUptoRow.holds Tryd.pinned (OpenSpec.upto baseExpiresSpec)

end Rows
end Go.Proofs.YtijcaejdgicbmaaDoor
