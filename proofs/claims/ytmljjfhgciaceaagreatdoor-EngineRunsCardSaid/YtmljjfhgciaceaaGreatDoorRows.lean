/-
  NARROWER THAN 'FOR EVERY INPUT', by the rows' own cells (each row's printed sentence says how): EngineRuns: laid · TopSplit: laid.
  DERIVED. THE GIVEN ROWS OF THIS SEAT. 2 by the template 'for every input the law returns true; each argument reads behind the call as it read before'; 0 by the template 'total and deterministic' (their statements: YtmljjfhgciaceaaGreatDoorTotals.lean).
  GIVEN WITH THE SEED: the statements are not yours to turn. If you find one false, say at which input.
  Laid BY PROGRAM, IN A SANDBOX (cutbox-rows.mjs): the forced cells as the released guide's own fill.sh prints them over the translation acfba2fc1a12c0d8… (all of the seat's roots in one cut). By AI agents, Wed Nov 11 2026. No macro, syntax, notation, axiom, sorry.
-/
import Derived.Test.YtmljjfhgciaceaaGreatDoorChecked
import GoSem.Claim
import GoSem.ClaimJoined
import GoSem.ClaimMapViews
import Derived.JoinedTies
import Derived.KernelRfl
namespace Go.Proofs.YtmljjfhgciaceaaGreatDoor
/- THE CELL 'sum', in the pinned program and in every row, IS THE sha256 OF THE DUMP (.gsa) THAT YtmljjfhgciaceaaGreatDoorProg.lean LOADS. Nothing in Lean hashes anything: it is a label: what it is worth is what the hold of that sum in a sandbox is worth. -/
noncomputable def Tryz.pinned : Pinned := { name := "ytmljjfhgciaceaagreatdoor", sum := "acfba2fc1a12c0d8e1cdcce1bee6b973427dee7d5dd68e02f179175df001d33a", checked := Tryz.checked }
namespace Rows
def none {H : Type} : Left H := { results := [], args := [] }

/- WHAT THE LISTED PACKAGE-LEVEL VARIABLES READ AS WHEN THE CALL BEGINS. Each datum BY PROGRAM (the guide's laid-datum.mjs) off the statement by which the dump's own 'gosem.cut.vars' lays the variable. In a bare row this is a premise. The card (YtmljjfhgciaceaaGreatDoorCards.lean) ties it to the program's text. -/
def laid_winnower_base_sizes {H : Type} : DataW H := .agg [.lit (.int .i64 1), .lit (.int .i64 60), .lit (.int .i64 3600)]

/-- 'winnowerlaw.EngineRuns': WHATEVER THE INPUT: true; the input reads as it did. -/
def engineRunsSpec : ChangeSpec := { name := "engineRuns", fn := fun _ => fun
  | [d] => { results := [.lit (.bool true)], args := [d] }
  | _ => none }
def engineRunsRow : OpenClaim := { program := "ytmljjfhgciaceaagreatdoor", sum := "acfba2fc1a12c0d8e1cdcce1bee6b973427dee7d5dd68e02f179175df001d33a", func := "winnower/winnowerlaw.EngineRuns", spec := "engineRuns", inPlace := ["slices.overlaps[winnower/api.Entry]", "slices.overlaps[int]"], unfollowed := true, recurses := true, named := ["winnower/base.sizes"], apart := false, laid := [("winnower/base.sizes", laid_winnower_base_sizes)] }
def EngineRunsSaid : Prop := engineRunsRow.holds Tryz.pinned (OpenSpec.ofChange engineRunsSpec)

/-- ITS FALSE NEIGHBOUR: 'it returns false'. Refute it at one input. -/
def engineRunsWrong : ChangeSpec := { name := "engineRuns", fn := fun _ => fun
  | [d] => { results := [.lit (.bool false)], args := [d] }
  | _ => none }
def EngineRunsWrongFalsely : Prop := engineRunsRow.holds Tryz.pinned (OpenSpec.ofChange engineRunsWrong)

/-- 'winnowertop.TopSplit': WHATEVER THE INPUT: true; the input reads as it did. -/
def topSplitSpec : ChangeSpec := { name := "topSplit", fn := fun _ => fun
  | [d1, d2, d3, d4] => { results := [.lit (.bool true)], args := [d1, d2, d3, d4] }
  | _ => none }
def topSplitRow : OpenClaim := { program := "ytmljjfhgciaceaagreatdoor", sum := "acfba2fc1a12c0d8e1cdcce1bee6b973427dee7d5dd68e02f179175df001d33a", func := "winnower/winnowertop.TopSplit", spec := "topSplit", inPlace := ["slices.overlaps[winnower/api.Entry]", "slices.overlaps[int]"], unfollowed := true, recurses := true, named := ["winnower/base.sizes"], apart := false, laid := [("winnower/base.sizes", laid_winnower_base_sizes)] }
def TopSplitSaid : Prop := topSplitRow.holds Tryz.pinned (OpenSpec.ofChange topSplitSpec)

/-- ITS FALSE NEIGHBOUR: 'it returns false'. Refute it at one input. -/
def topSplitWrong : ChangeSpec := { name := "topSplit", fn := fun _ => fun
  | [d1, d2, d3, d4] => { results := [.lit (.bool false)], args := [d1, d2, d3, d4] }
  | _ => none }
def TopSplitWrongFalsely : Prop := topSplitRow.holds Tryz.pinned (OpenSpec.ofChange topSplitWrong)

/- THE SECOND FORM. 'bulk': how many values and letters a reading holds, each counted each time it is reached (what is shared counts as often as it is met; a slice's spare places count too). A statement '..UptoSaid' is the law's where the arguments, and the package variables that the reading takes, are together of bulk at most 1048576: NARROWER than '..Said'. Prove '..Said' where nothing that the law and all that it calls make is longer than what came in: it says more and counts as full. Else prove '..UptoSaid'. A law counts once. -/
mutual
def uptoBulk {H : Type} : DataW H → Nat
  | .lit (.string bytes) => bytes.length + 1
  | .lit _ => 1
  | .nil => 1
  | .ptr d => uptoBulk d + 1
  | .slice elems spare => uptoBulkAll elems + uptoBulkAll spare + 1
  | .agg parts => uptoBulkAll parts + 1
  | .iface _ d => uptoBulk d + 1
  | .map entries => uptoBulkEntries entries + 1
  | .held _ => 1
def uptoBulkAll {H : Type} : List (DataW H) → Nat
  | [] => 0
  | d :: r => uptoBulk d + uptoBulkAll r
def uptoBulkEntries {H : Type} : List (Lit × DataW H) → Nat
  | [] => 0
  | x :: r => uptoBulkEntry x + uptoBulkEntries r
def uptoBulkEntry {H : Type} : Lit × DataW H → Nat
  | (.string bytes, d) => bytes.length + uptoBulk d + 1
  | (_, d) => uptoBulk d + 1
 end
def uptoSmall : (H : Type) → List (DataW H) → Bool := fun _ ds => decide (uptoBulkAll ds ≤ 1048576)
def OpenSpec.upto (s : _root_.Go.ChangeSpec) : _root_.Go.OpenSpec := { _root_.Go.OpenSpec.ofChange s with cond := some uptoSmall }

/-- 'winnowerlaw.EngineRuns', WHERE WHAT IT READS IS OF BULK AT MOST 1048576: true; the input reads as it did. -/
def engineRunsUptoRow : OpenClaim := { program := "ytmljjfhgciaceaagreatdoor", sum := "acfba2fc1a12c0d8e1cdcce1bee6b973427dee7d5dd68e02f179175df001d33a", func := "winnower/winnowerlaw.EngineRuns", spec := "engineRuns", inPlace := ["slices.overlaps[winnower/api.Entry]", "slices.overlaps[int]"], unfollowed := true, recurses := true, named := ["winnower/base.sizes"], apart := false, laid := [("winnower/base.sizes", laid_winnower_base_sizes)], narrowed := true }
def EngineRunsUptoSaid : Prop := engineRunsUptoRow.holds Tryz.pinned (OpenSpec.upto engineRunsSpec)

/-- 'winnowertop.TopSplit', WHERE WHAT IT READS IS OF BULK AT MOST 1048576: true; the input reads as it did. -/
def topSplitUptoRow : OpenClaim := { program := "ytmljjfhgciaceaagreatdoor", sum := "acfba2fc1a12c0d8e1cdcce1bee6b973427dee7d5dd68e02f179175df001d33a", func := "winnower/winnowertop.TopSplit", spec := "topSplit", inPlace := ["slices.overlaps[winnower/api.Entry]", "slices.overlaps[int]"], unfollowed := true, recurses := true, named := ["winnower/base.sizes"], apart := false, laid := [("winnower/base.sizes", laid_winnower_base_sizes)], narrowed := true }
def TopSplitUptoSaid : Prop := topSplitUptoRow.holds Tryz.pinned (OpenSpec.upto topSplitSpec)

end Rows
end Go.Proofs.YtmljjfhgciaceaaGreatDoor
