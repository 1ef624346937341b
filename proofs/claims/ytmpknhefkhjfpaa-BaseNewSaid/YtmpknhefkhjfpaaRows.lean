/-
  No cell of these rows narrows 'for every input' (looked for: loops, veiled, ifaces, maps, wideKeys, modest, calm, conditions, laid).
  DERIVED. THE GIVEN ROWS OF THIS SEAT. 9 by the template 'for every input the law returns true; each argument reads behind the call as it read before'; 0 by the template 'total and deterministic' (their statements: YtmpknhefkhjfpaaTotals.lean).
  GIVEN WITH THE SEED: the statements are not yours to turn. If you find one false, say at which input.
  Laid BY PROGRAM, IN A SANDBOX (cutbox-rows.mjs): the forced cells as the released guide's own fill.sh prints them over the translation 74c6862152bdc3ac… (all of the seat's roots in one cut). By AI agents, Wed Nov 11 2026. No macro, syntax, notation, axiom, sorry.
-/
import Derived.Test.YtmpknhefkhjfpaaChecked
import GoSem.Claim
import GoSem.ClaimJoined
import GoSem.ClaimMapViews
import Derived.JoinedTies
import Derived.KernelRfl
namespace Go.Proofs.Ytmpknhefkhjfpaa
/- THE CELL 'sum', in the pinned program and in every row, IS THE sha256 OF THE DUMP (.gsa) THAT YtmpknhefkhjfpaaProg.lean LOADS. Nothing in Lean hashes anything: it is a label: what it is worth is what the hold of that sum in a sandbox is worth. -/
noncomputable def Try.pinned : Pinned := { name := "ytmpknhefkhjfpaa", sum := "74c6862152bdc3ac4737c85dd1480107ab4a44d0b410659998bd6e88d2b3d3aa", checked := Try.checked }
namespace Rows
def none {H : Type} : Left H := { results := [], args := [] }

/-- 'winnowerlaw.TreeNew': WHATEVER THE INPUT: true; the input reads as it did. -/
def treeNewSpec : ChangeSpec := { name := "treeNew", fn := fun _ => fun
  | [d] => { results := [.lit (.bool true)], args := [d] }
  | _ => none }
def treeNewRow : OpenClaim := { program := "ytmpknhefkhjfpaa", sum := "74c6862152bdc3ac4737c85dd1480107ab4a44d0b410659998bd6e88d2b3d3aa", func := "winnower/winnowerlaw.TreeNew", spec := "treeNew", recurses := true, apart := false }
def TreeNewSaid : Prop := treeNewRow.holds Try.pinned (OpenSpec.ofChange treeNewSpec)

/-- ITS FALSE NEIGHBOUR: 'it returns false'. Refute it at one input. -/
def treeNewWrong : ChangeSpec := { name := "treeNew", fn := fun _ => fun
  | [d] => { results := [.lit (.bool false)], args := [d] }
  | _ => none }
def TreeNewWrongFalsely : Prop := treeNewRow.holds Try.pinned (OpenSpec.ofChange treeNewWrong)

/-- 'winnowerlaw.BaseNew': WHATEVER THE INPUT: true; the input reads as it did. -/
def baseNewSpec : ChangeSpec := { name := "baseNew", fn := fun _ => fun
  | [d] => { results := [.lit (.bool true)], args := [d] }
  | _ => none }
def baseNewRow : OpenClaim := { program := "ytmpknhefkhjfpaa", sum := "74c6862152bdc3ac4737c85dd1480107ab4a44d0b410659998bd6e88d2b3d3aa", func := "winnower/winnowerlaw.BaseNew", spec := "baseNew", recurses := true, apart := false }
def BaseNewSaid : Prop := baseNewRow.holds Try.pinned (OpenSpec.ofChange baseNewSpec)

/-- ITS FALSE NEIGHBOUR: 'it returns false'. Refute it at one input. -/
def baseNewWrong : ChangeSpec := { name := "baseNew", fn := fun _ => fun
  | [d] => { results := [.lit (.bool false)], args := [d] }
  | _ => none }
def BaseNewWrongFalsely : Prop := baseNewRow.holds Try.pinned (OpenSpec.ofChange baseNewWrong)

/-- 'winnowerlaw.TreeCopies': WHATEVER THE INPUT: true; the input reads as it did. -/
def treeCopiesSpec : ChangeSpec := { name := "treeCopies", fn := fun _ => fun
  | [d] => { results := [.lit (.bool true)], args := [d] }
  | _ => none }
def treeCopiesRow : OpenClaim := { program := "ytmpknhefkhjfpaa", sum := "74c6862152bdc3ac4737c85dd1480107ab4a44d0b410659998bd6e88d2b3d3aa", func := "winnower/winnowerlaw.TreeCopies", spec := "treeCopies", apart := false }
def TreeCopiesSaid : Prop := treeCopiesRow.holds Try.pinned (OpenSpec.ofChange treeCopiesSpec)

/-- ITS FALSE NEIGHBOUR: 'it returns false'. Refute it at one input. -/
def treeCopiesWrong : ChangeSpec := { name := "treeCopies", fn := fun _ => fun
  | [d] => { results := [.lit (.bool false)], args := [d] }
  | _ => none }
def TreeCopiesWrongFalsely : Prop := treeCopiesRow.holds Try.pinned (OpenSpec.ofChange treeCopiesWrong)

/-- 'winnowerlaw.BaseCopies': WHATEVER THE INPUT: true; the input reads as it did. -/
def baseCopiesSpec : ChangeSpec := { name := "baseCopies", fn := fun _ => fun
  | [d] => { results := [.lit (.bool true)], args := [d] }
  | _ => none }
def baseCopiesRow : OpenClaim := { program := "ytmpknhefkhjfpaa", sum := "74c6862152bdc3ac4737c85dd1480107ab4a44d0b410659998bd6e88d2b3d3aa", func := "winnower/winnowerlaw.BaseCopies", spec := "baseCopies", apart := false }
def BaseCopiesSaid : Prop := baseCopiesRow.holds Try.pinned (OpenSpec.ofChange baseCopiesSpec)

/-- ITS FALSE NEIGHBOUR: 'it returns false'. Refute it at one input. -/
def baseCopiesWrong : ChangeSpec := { name := "baseCopies", fn := fun _ => fun
  | [d] => { results := [.lit (.bool false)], args := [d] }
  | _ => none }
def BaseCopiesWrongFalsely : Prop := baseCopiesRow.holds Try.pinned (OpenSpec.ofChange baseCopiesWrong)

/-- 'winnowerlaw.TreeChecks': WHATEVER THE INPUT: true; the input reads as it did. -/
def treeChecksSpec : ChangeSpec := { name := "treeChecks", fn := fun _ => fun
  | [d] => { results := [.lit (.bool true)], args := [d] }
  | _ => none }
def treeChecksRow : OpenClaim := { program := "ytmpknhefkhjfpaa", sum := "74c6862152bdc3ac4737c85dd1480107ab4a44d0b410659998bd6e88d2b3d3aa", func := "winnower/winnowerlaw.TreeChecks", spec := "treeChecks", recurses := true, apart := false }
def TreeChecksSaid : Prop := treeChecksRow.holds Try.pinned (OpenSpec.ofChange treeChecksSpec)

/-- ITS FALSE NEIGHBOUR: 'it returns false'. Refute it at one input. -/
def treeChecksWrong : ChangeSpec := { name := "treeChecks", fn := fun _ => fun
  | [d] => { results := [.lit (.bool false)], args := [d] }
  | _ => none }
def TreeChecksWrongFalsely : Prop := treeChecksRow.holds Try.pinned (OpenSpec.ofChange treeChecksWrong)

/-- 'winnowerlaw.TreeGets': WHATEVER THE INPUT: true; the input reads as it did. -/
def treeGetsSpec : ChangeSpec := { name := "treeGets", fn := fun _ => fun
  | [d1, d2] => { results := [.lit (.bool true)], args := [d1, d2] }
  | _ => none }
def treeGetsRow : OpenClaim := { program := "ytmpknhefkhjfpaa", sum := "74c6862152bdc3ac4737c85dd1480107ab4a44d0b410659998bd6e88d2b3d3aa", func := "winnower/winnowerlaw.TreeGets", spec := "treeGets", unfollowed := true, recurses := true, apart := false }
def TreeGetsSaid : Prop := treeGetsRow.holds Try.pinned (OpenSpec.ofChange treeGetsSpec)

/-- ITS FALSE NEIGHBOUR: 'it returns false'. Refute it at one input. -/
def treeGetsWrong : ChangeSpec := { name := "treeGets", fn := fun _ => fun
  | [d1, d2] => { results := [.lit (.bool false)], args := [d1, d2] }
  | _ => none }
def TreeGetsWrongFalsely : Prop := treeGetsRow.holds Try.pinned (OpenSpec.ofChange treeGetsWrong)

/-- 'winnowerlaw.TreeAlls': WHATEVER THE INPUT: true; the input reads as it did. -/
def treeAllsSpec : ChangeSpec := { name := "treeAlls", fn := fun _ => fun
  | [d1, d2, d3] => { results := [.lit (.bool true)], args := [d1, d2, d3] }
  | _ => none }
def treeAllsRow : OpenClaim := { program := "ytmpknhefkhjfpaa", sum := "74c6862152bdc3ac4737c85dd1480107ab4a44d0b410659998bd6e88d2b3d3aa", func := "winnower/winnowerlaw.TreeAlls", spec := "treeAlls", inPlace := ["slices.overlaps[winnower/api.Entry]"], unfollowed := true, recurses := true, apart := false }
def TreeAllsSaid : Prop := treeAllsRow.holds Try.pinned (OpenSpec.ofChange treeAllsSpec)

/-- ITS FALSE NEIGHBOUR: 'it returns false'. Refute it at one input. -/
def treeAllsWrong : ChangeSpec := { name := "treeAlls", fn := fun _ => fun
  | [d1, d2, d3] => { results := [.lit (.bool false)], args := [d1, d2, d3] }
  | _ => none }
def TreeAllsWrongFalsely : Prop := treeAllsRow.holds Try.pinned (OpenSpec.ofChange treeAllsWrong)

/-- 'winnowerlaw.TreeOfs': WHATEVER THE INPUT: true; the input reads as it did. -/
def treeOfsSpec : ChangeSpec := { name := "treeOfs", fn := fun _ => fun
  | [d] => { results := [.lit (.bool true)], args := [d] }
  | _ => none }
def treeOfsRow : OpenClaim := { program := "ytmpknhefkhjfpaa", sum := "74c6862152bdc3ac4737c85dd1480107ab4a44d0b410659998bd6e88d2b3d3aa", func := "winnower/winnowerlaw.TreeOfs", spec := "treeOfs", inPlace := ["slices.overlaps[winnower/api.Entry]", "slices.overlaps[int]"], unfollowed := true, recurses := true, apart := false }
def TreeOfsSaid : Prop := treeOfsRow.holds Try.pinned (OpenSpec.ofChange treeOfsSpec)

/-- ITS FALSE NEIGHBOUR: 'it returns false'. Refute it at one input. -/
def treeOfsWrong : ChangeSpec := { name := "treeOfs", fn := fun _ => fun
  | [d] => { results := [.lit (.bool false)], args := [d] }
  | _ => none }
def TreeOfsWrongFalsely : Prop := treeOfsRow.holds Try.pinned (OpenSpec.ofChange treeOfsWrong)

/-- 'winnowerkeep.TreesKnow': WHATEVER THE INPUT: true; the input reads as it did. -/
def treesKnowSpec : ChangeSpec := { name := "treesKnow", fn := fun _ => fun
  | [d1, d2] => { results := [.lit (.bool true)], args := [d1, d2] }
  | _ => none }
def treesKnowRow : OpenClaim := { program := "ytmpknhefkhjfpaa", sum := "74c6862152bdc3ac4737c85dd1480107ab4a44d0b410659998bd6e88d2b3d3aa", func := "winnower/winnowerkeep.TreesKnow", spec := "treesKnow", inPlace := ["slices.overlaps[winnower/api.Entry]", "slices.overlaps[int]"], unfollowed := true, recurses := true, apart := false }
def TreesKnowSaid : Prop := treesKnowRow.holds Try.pinned (OpenSpec.ofChange treesKnowSpec)

/-- ITS FALSE NEIGHBOUR: 'it returns false'. Refute it at one input. -/
def treesKnowWrong : ChangeSpec := { name := "treesKnow", fn := fun _ => fun
  | [d1, d2] => { results := [.lit (.bool false)], args := [d1, d2] }
  | _ => none }
def TreesKnowWrongFalsely : Prop := treesKnowRow.holds Try.pinned (OpenSpec.ofChange treesKnowWrong)

/- THE SECOND FORM. 'bulk': how many values and letters a reading holds, each counted each time it is reached (what is shared counts as often as it is met; a slice's spare places count too). A statement '..UptoSaid' is the law's where the arguments, and the package variables that the reading takes, are together of bulk at most 1048576: NARROWER than '..Said'. Prove '..Said' where nothing that the law and all that it calls make is longer than what came in: it says more and counts as full. Else prove '..UptoSaid'. A law counts once. -/
mutual
def uptoBulk {H : Type} : DataW H → Nat
  | .lit (.string bytes) => bytes.length + 1
  | .lit _ => 1
  | .nil => 1
  | .ptr d => uptoBulk d + 1
  | .slice elems spare => uptoBulkAll elems + uptoBulkAll spare + 1
  | .agg parts => uptoBulkAll parts + 1
  | .iface _ d => uptoBulk d + 1
  | .map entries => uptoBulkEntries entries + 1
  | .held _ => 1
def uptoBulkAll {H : Type} : List (DataW H) → Nat
  | [] => 0
  | d :: r => uptoBulk d + uptoBulkAll r
def uptoBulkEntries {H : Type} : List (Lit × DataW H) → Nat
  | [] => 0
  | x :: r => uptoBulkEntry x + uptoBulkEntries r
def uptoBulkEntry {H : Type} : Lit × DataW H → Nat
  | (.string bytes, d) => bytes.length + uptoBulk d + 1
  | (_, d) => uptoBulk d + 1
 end
def uptoSmall : (H : Type) → List (DataW H) → Bool := fun _ ds => decide (uptoBulkAll ds ≤ 1048576)
def OpenSpec.upto (s : _root_.Go.ChangeSpec) : _root_.Go.OpenSpec := { _root_.Go.OpenSpec.ofChange s with cond := some uptoSmall }

/-- 'winnowerlaw.TreeNew', WHERE WHAT IT READS IS OF BULK AT MOST 1048576: true; the input reads as it did. -/
def treeNewUptoRow : OpenClaim := { program := "ytmpknhefkhjfpaa", sum := "74c6862152bdc3ac4737c85dd1480107ab4a44d0b410659998bd6e88d2b3d3aa", func := "winnower/winnowerlaw.TreeNew", spec := "treeNew", recurses := true, apart := false, narrowed := true }
def TreeNewUptoSaid : Prop := treeNewUptoRow.holds Try.pinned (OpenSpec.upto treeNewSpec)

/-- 'winnowerlaw.BaseNew', WHERE WHAT IT READS IS OF BULK AT MOST 1048576: true; the input reads as it did. -/
def baseNewUptoRow : OpenClaim := { program := "ytmpknhefkhjfpaa", sum := "74c6862152bdc3ac4737c85dd1480107ab4a44d0b410659998bd6e88d2b3d3aa", func := "winnower/winnowerlaw.BaseNew", spec := "baseNew", recurses := true, apart := false, narrowed := true }
def BaseNewUptoSaid : Prop := baseNewUptoRow.holds Try.pinned (OpenSpec.upto baseNewSpec)

/-- 'winnowerlaw.TreeCopies', WHERE WHAT IT READS IS OF BULK AT MOST 1048576: true; the input reads as it did. -/
def treeCopiesUptoRow : OpenClaim := { program := "ytmpknhefkhjfpaa", sum := "74c6862152bdc3ac4737c85dd1480107ab4a44d0b410659998bd6e88d2b3d3aa", func := "winnower/winnowerlaw.TreeCopies", spec := "treeCopies", apart := false, narrowed := true }
def TreeCopiesUptoSaid : Prop := treeCopiesUptoRow.holds Try.pinned (OpenSpec.upto treeCopiesSpec)

/-- 'winnowerlaw.BaseCopies', WHERE WHAT IT READS IS OF BULK AT MOST 1048576: true; the input reads as it did. -/
def baseCopiesUptoRow : OpenClaim := { program := "ytmpknhefkhjfpaa", sum := "74c6862152bdc3ac4737c85dd1480107ab4a44d0b410659998bd6e88d2b3d3aa", func := "winnower/winnowerlaw.BaseCopies", spec := "baseCopies", apart := false, narrowed := true }
def BaseCopiesUptoSaid : Prop := baseCopiesUptoRow.holds Try.pinned (OpenSpec.upto baseCopiesSpec)

/-- 'winnowerlaw.TreeChecks', WHERE WHAT IT READS IS OF BULK AT MOST 1048576: true; the input reads as it did. -/
def treeChecksUptoRow : OpenClaim := { program := "ytmpknhefkhjfpaa", sum := "74c6862152bdc3ac4737c85dd1480107ab4a44d0b410659998bd6e88d2b3d3aa", func := "winnower/winnowerlaw.TreeChecks", spec := "treeChecks", recurses := true, apart := false, narrowed := true }
def TreeChecksUptoSaid : Prop := treeChecksUptoRow.holds Try.pinned (OpenSpec.upto treeChecksSpec)

/-- 'winnowerlaw.TreeGets', WHERE WHAT IT READS IS OF BULK AT MOST 1048576: true; the input reads as it did. -/
def treeGetsUptoRow : OpenClaim := { program := "ytmpknhefkhjfpaa", sum := "74c6862152bdc3ac4737c85dd1480107ab4a44d0b410659998bd6e88d2b3d3aa", func := "winnower/winnowerlaw.TreeGets", spec := "treeGets", unfollowed := true, recurses := true, apart := false, narrowed := true }
def TreeGetsUptoSaid : Prop := treeGetsUptoRow.holds Try.pinned (OpenSpec.upto treeGetsSpec)

/-- 'winnowerlaw.TreeAlls', WHERE WHAT IT READS IS OF BULK AT MOST 1048576: true; the input reads as it did. -/
def treeAllsUptoRow : OpenClaim := { program := "ytmpknhefkhjfpaa", sum := "74c6862152bdc3ac4737c85dd1480107ab4a44d0b410659998bd6e88d2b3d3aa", func := "winnower/winnowerlaw.TreeAlls", spec := "treeAlls", inPlace := ["slices.overlaps[winnower/api.Entry]"], unfollowed := true, recurses := true, apart := false, narrowed := true }
def TreeAllsUptoSaid : Prop := treeAllsUptoRow.holds Try.pinned (OpenSpec.upto treeAllsSpec)

/-- 'winnowerlaw.TreeOfs', WHERE WHAT IT READS IS OF BULK AT MOST 1048576: true; the input reads as it did. -/
def treeOfsUptoRow : OpenClaim := { program := "ytmpknhefkhjfpaa", sum := "74c6862152bdc3ac4737c85dd1480107ab4a44d0b410659998bd6e88d2b3d3aa", func := "winnower/winnowerlaw.TreeOfs", spec := "treeOfs", inPlace := ["slices.overlaps[winnower/api.Entry]", "slices.overlaps[int]"], unfollowed := true, recurses := true, apart := false, narrowed := true }
def TreeOfsUptoSaid : Prop := treeOfsUptoRow.holds Try.pinned (OpenSpec.upto treeOfsSpec)

/-- 'winnowerkeep.TreesKnow', WHERE WHAT IT READS IS OF BULK AT MOST 1048576: true; the input reads as it did. -/
def treesKnowUptoRow : OpenClaim := { program := "ytmpknhefkhjfpaa", sum := "74c6862152bdc3ac4737c85dd1480107ab4a44d0b410659998bd6e88d2b3d3aa", func := "winnower/winnowerkeep.TreesKnow", spec := "treesKnow", inPlace := ["slices.overlaps[winnower/api.Entry]", "slices.overlaps[int]"], unfollowed := true, recurses := true, apart := false, narrowed := true }
def TreesKnowUptoSaid : Prop := treesKnowUptoRow.holds Try.pinned (OpenSpec.upto treesKnowSpec)

end Rows
end Go.Proofs.Ytmpknhefkhjfpaa
