/-
  NARROWER THAN 'FOR EVERY INPUT', by the rows' own cells (each row's printed sentence says how): MergesAgree: laid · TreesApart: laid · TreesDeep: laid · TreesOf: laid · BasesRows: laid · BasesTotal: laid · BasesAny: laid · BasesBad: laid · BasesExpire: laid · TreesRange: laid.
  DERIVED. THE GIVEN ROWS OF THIS SEAT. 10 by the template 'for every input the law returns true; each argument reads behind the call as it read before'; 0 by the template 'total and deterministic' (their statements: YtggcinmjmkfboaaDoorTotals.lean).
  GIVEN WITH THE SEED: the statements are not yours to turn. If you find one false, say at which input.
  Laid BY PROGRAM, IN A SANDBOX (cutbox-rows.mjs): the forced cells as the released guide's own fill.sh prints them over the translation 2d1b742dac9063a0… (all of the seat's roots in one cut). By AI agents, Wed Nov 11 2026. No macro, syntax, notation, axiom, sorry.
-/
import Derived.Test.YtggcinmjmkfboaaDoorChecked
import GoSem.Claim
import GoSem.ClaimJoined
import GoSem.ClaimMapViews
import Derived.JoinedTies
import Derived.KernelRfl
namespace Go.Proofs.YtggcinmjmkfboaaDoor
/- THE CELL 'sum', in the pinned program and in every row, IS THE sha256 OF THE DUMP (.gsa) THAT YtggcinmjmkfboaaDoorProg.lean LOADS. Nothing in Lean hashes anything: it is a label: what it is worth is what the hold of that sum in a sandbox is worth. -/
noncomputable def Tryd.pinned : Pinned := { name := "ytggcinmjmkfboaadoor", sum := "2d1b742dac9063a027413eafb79605a81eea3655b08c1b00f723aa5762f58286", checked := Tryd.checked }
namespace Rows
def none {H : Type} : Left H := { results := [], args := [] }

/- WHAT THE LISTED PACKAGE-LEVEL VARIABLES READ AS WHEN THE CALL BEGINS. Each datum BY PROGRAM (the guide's laid-datum.mjs) off the statement by which the dump's own 'gosem.cut.vars' lays the variable. In a bare row this is a premise. The card (YtggcinmjmkfboaaDoorCards.lean) ties it to the program's text. -/
def laid_winnower_base_sizes {H : Type} : DataW H := .agg [.lit (.int .i64 1), .lit (.int .i64 60), .lit (.int .i64 3600)]

/-- 'winnowerkeep.MergesAgree': WHATEVER THE INPUT: true; the input reads as it did. -/
def mergesAgreeSpec : ChangeSpec := { name := "mergesAgree", fn := fun _ => fun
  | [d1, d2, d3] => { results := [.lit (.bool true)], args := [d1, d2, d3] }
  | _ => none }
def mergesAgreeRow : OpenClaim := { program := "ytggcinmjmkfboaadoor", sum := "2d1b742dac9063a027413eafb79605a81eea3655b08c1b00f723aa5762f58286", func := "winnower/winnowerkeep.MergesAgree", spec := "mergesAgree", inPlace := ["slices.overlaps[winnower/api.Entry]", "slices.overlaps[int]"], unfollowed := true, recurses := true, named := ["winnower/base.sizes"], apart := false, laid := [("winnower/base.sizes", laid_winnower_base_sizes)] }
def MergesAgreeSaid : Prop := mergesAgreeRow.holds Tryd.pinned (OpenSpec.ofChange mergesAgreeSpec)

/-- ITS FALSE NEIGHBOUR: 'it returns false'. Refute it at one input. -/
def mergesAgreeWrong : ChangeSpec := { name := "mergesAgree", fn := fun _ => fun
  | [d1, d2, d3] => { results := [.lit (.bool false)], args := [d1, d2, d3] }
  | _ => none }
def MergesAgreeWrongFalsely : Prop := mergesAgreeRow.holds Tryd.pinned (OpenSpec.ofChange mergesAgreeWrong)

/-- 'winnowerkeep.TreesApart': WHATEVER THE INPUT: true; the input reads as it did. -/
def treesApartSpec : ChangeSpec := { name := "treesApart", fn := fun _ => fun
  | [d1, d2, d3] => { results := [.lit (.bool true)], args := [d1, d2, d3] }
  | _ => none }
def treesApartRow : OpenClaim := { program := "ytggcinmjmkfboaadoor", sum := "2d1b742dac9063a027413eafb79605a81eea3655b08c1b00f723aa5762f58286", func := "winnower/winnowerkeep.TreesApart", spec := "treesApart", inPlace := ["slices.overlaps[winnower/api.Entry]", "slices.overlaps[int]"], unfollowed := true, recurses := true, named := ["winnower/base.sizes"], apart := false, laid := [("winnower/base.sizes", laid_winnower_base_sizes)] }
def TreesApartSaid : Prop := treesApartRow.holds Tryd.pinned (OpenSpec.ofChange treesApartSpec)

/-- ITS FALSE NEIGHBOUR: 'it returns false'. Refute it at one input. -/
def treesApartWrong : ChangeSpec := { name := "treesApart", fn := fun _ => fun
  | [d1, d2, d3] => { results := [.lit (.bool false)], args := [d1, d2, d3] }
  | _ => none }
def TreesApartWrongFalsely : Prop := treesApartRow.holds Tryd.pinned (OpenSpec.ofChange treesApartWrong)

/-- 'winnowerkeep.TreesDeep': WHATEVER THE INPUT: true; the input reads as it did. -/
def treesDeepSpec : ChangeSpec := { name := "treesDeep", fn := fun _ => fun
  | [d1, d2] => { results := [.lit (.bool true)], args := [d1, d2] }
  | _ => none }
def treesDeepRow : OpenClaim := { program := "ytggcinmjmkfboaadoor", sum := "2d1b742dac9063a027413eafb79605a81eea3655b08c1b00f723aa5762f58286", func := "winnower/winnowerkeep.TreesDeep", spec := "treesDeep", inPlace := ["slices.overlaps[winnower/api.Entry]", "slices.overlaps[int]"], unfollowed := true, recurses := true, named := ["winnower/base.sizes"], apart := false, laid := [("winnower/base.sizes", laid_winnower_base_sizes)] }
def TreesDeepSaid : Prop := treesDeepRow.holds Tryd.pinned (OpenSpec.ofChange treesDeepSpec)

/-- ITS FALSE NEIGHBOUR: 'it returns false'. Refute it at one input. -/
def treesDeepWrong : ChangeSpec := { name := "treesDeep", fn := fun _ => fun
  | [d1, d2] => { results := [.lit (.bool false)], args := [d1, d2] }
  | _ => none }
def TreesDeepWrongFalsely : Prop := treesDeepRow.holds Tryd.pinned (OpenSpec.ofChange treesDeepWrong)

/-- 'winnowerkeep.TreesOf': WHATEVER THE INPUT: true; the input reads as it did. -/
def treesOfSpec : ChangeSpec := { name := "treesOf", fn := fun _ => fun
  | [d] => { results := [.lit (.bool true)], args := [d] }
  | _ => none }
def treesOfRow : OpenClaim := { program := "ytggcinmjmkfboaadoor", sum := "2d1b742dac9063a027413eafb79605a81eea3655b08c1b00f723aa5762f58286", func := "winnower/winnowerkeep.TreesOf", spec := "treesOf", inPlace := ["slices.overlaps[winnower/api.Entry]", "slices.overlaps[int]"], unfollowed := true, recurses := true, named := ["winnower/base.sizes"], apart := false, laid := [("winnower/base.sizes", laid_winnower_base_sizes)] }
def TreesOfSaid : Prop := treesOfRow.holds Tryd.pinned (OpenSpec.ofChange treesOfSpec)

/-- ITS FALSE NEIGHBOUR: 'it returns false'. Refute it at one input. -/
def treesOfWrong : ChangeSpec := { name := "treesOf", fn := fun _ => fun
  | [d] => { results := [.lit (.bool false)], args := [d] }
  | _ => none }
def TreesOfWrongFalsely : Prop := treesOfRow.holds Tryd.pinned (OpenSpec.ofChange treesOfWrong)

/-- 'winnowerkeep.BasesRows': WHATEVER THE INPUT: true; the input reads as it did. -/
def basesRowsSpec : ChangeSpec := { name := "basesRows", fn := fun _ => fun
  | [d1, d2, d3] => { results := [.lit (.bool true)], args := [d1, d2, d3] }
  | _ => none }
def basesRowsRow : OpenClaim := { program := "ytggcinmjmkfboaadoor", sum := "2d1b742dac9063a027413eafb79605a81eea3655b08c1b00f723aa5762f58286", func := "winnower/winnowerkeep.BasesRows", spec := "basesRows", inPlace := ["slices.overlaps[winnower/api.Entry]", "slices.overlaps[int]"], unfollowed := true, recurses := true, named := ["winnower/base.sizes"], apart := false, laid := [("winnower/base.sizes", laid_winnower_base_sizes)] }
def BasesRowsSaid : Prop := basesRowsRow.holds Tryd.pinned (OpenSpec.ofChange basesRowsSpec)

/-- ITS FALSE NEIGHBOUR: 'it returns false'. Refute it at one input. -/
def basesRowsWrong : ChangeSpec := { name := "basesRows", fn := fun _ => fun
  | [d1, d2, d3] => { results := [.lit (.bool false)], args := [d1, d2, d3] }
  | _ => none }
def BasesRowsWrongFalsely : Prop := basesRowsRow.holds Tryd.pinned (OpenSpec.ofChange basesRowsWrong)

/-- 'winnowerkeep.BasesTotal': WHATEVER THE INPUT: true; the input reads as it did. -/
def basesTotalSpec : ChangeSpec := { name := "basesTotal", fn := fun _ => fun
  | [d1, d2, d3, d4] => { results := [.lit (.bool true)], args := [d1, d2, d3, d4] }
  | _ => none }
def basesTotalRow : OpenClaim := { program := "ytggcinmjmkfboaadoor", sum := "2d1b742dac9063a027413eafb79605a81eea3655b08c1b00f723aa5762f58286", func := "winnower/winnowerkeep.BasesTotal", spec := "basesTotal", inPlace := ["slices.overlaps[winnower/api.Entry]", "slices.overlaps[int]"], unfollowed := true, recurses := true, named := ["winnower/base.sizes"], apart := false, laid := [("winnower/base.sizes", laid_winnower_base_sizes)] }
def BasesTotalSaid : Prop := basesTotalRow.holds Tryd.pinned (OpenSpec.ofChange basesTotalSpec)

/-- ITS FALSE NEIGHBOUR: 'it returns false'. Refute it at one input. -/
def basesTotalWrong : ChangeSpec := { name := "basesTotal", fn := fun _ => fun
  | [d1, d2, d3, d4] => { results := [.lit (.bool false)], args := [d1, d2, d3, d4] }
  | _ => none }
def BasesTotalWrongFalsely : Prop := basesTotalRow.holds Tryd.pinned (OpenSpec.ofChange basesTotalWrong)

/-- 'winnowerkeep.BasesAny': WHATEVER THE INPUT: true; the input reads as it did. -/
def basesAnySpec : ChangeSpec := { name := "basesAny", fn := fun _ => fun
  | [d1, d2, d3] => { results := [.lit (.bool true)], args := [d1, d2, d3] }
  | _ => none }
def basesAnyRow : OpenClaim := { program := "ytggcinmjmkfboaadoor", sum := "2d1b742dac9063a027413eafb79605a81eea3655b08c1b00f723aa5762f58286", func := "winnower/winnowerkeep.BasesAny", spec := "basesAny", inPlace := ["slices.overlaps[winnower/api.Entry]", "slices.overlaps[int]"], unfollowed := true, recurses := true, named := ["winnower/base.sizes"], apart := false, laid := [("winnower/base.sizes", laid_winnower_base_sizes)] }
def BasesAnySaid : Prop := basesAnyRow.holds Tryd.pinned (OpenSpec.ofChange basesAnySpec)

/-- ITS FALSE NEIGHBOUR: 'it returns false'. Refute it at one input. -/
def basesAnyWrong : ChangeSpec := { name := "basesAny", fn := fun _ => fun
  | [d1, d2, d3] => { results := [.lit (.bool false)], args := [d1, d2, d3] }
  | _ => none }
def BasesAnyWrongFalsely : Prop := basesAnyRow.holds Tryd.pinned (OpenSpec.ofChange basesAnyWrong)

/-- 'winnowerkeep.BasesBad': WHATEVER THE INPUT: true; the input reads as it did. -/
def basesBadSpec : ChangeSpec := { name := "basesBad", fn := fun _ => fun
  | [d1, d2, d3] => { results := [.lit (.bool true)], args := [d1, d2, d3] }
  | _ => none }
def basesBadRow : OpenClaim := { program := "ytggcinmjmkfboaadoor", sum := "2d1b742dac9063a027413eafb79605a81eea3655b08c1b00f723aa5762f58286", func := "winnower/winnowerkeep.BasesBad", spec := "basesBad", inPlace := ["slices.overlaps[winnower/api.Entry]", "slices.overlaps[int]"], unfollowed := true, recurses := true, named := ["winnower/base.sizes"], apart := false, laid := [("winnower/base.sizes", laid_winnower_base_sizes)] }
def BasesBadSaid : Prop := basesBadRow.holds Tryd.pinned (OpenSpec.ofChange basesBadSpec)

/-- ITS FALSE NEIGHBOUR: 'it returns false'. Refute it at one input. -/
def basesBadWrong : ChangeSpec := { name := "basesBad", fn := fun _ => fun
  | [d1, d2, d3] => { results := [.lit (.bool false)], args := [d1, d2, d3] }
  | _ => none }
def BasesBadWrongFalsely : Prop := basesBadRow.holds Tryd.pinned (OpenSpec.ofChange basesBadWrong)

/-- 'winnowerkeep.BasesExpire': WHATEVER THE INPUT: true; the input reads as it did. -/
def basesExpireSpec : ChangeSpec := { name := "basesExpire", fn := fun _ => fun
  | [d1, d2, d3] => { results := [.lit (.bool true)], args := [d1, d2, d3] }
  | _ => none }
def basesExpireRow : OpenClaim := { program := "ytggcinmjmkfboaadoor", sum := "2d1b742dac9063a027413eafb79605a81eea3655b08c1b00f723aa5762f58286", func := "winnower/winnowerkeep.BasesExpire", spec := "basesExpire", inPlace := ["slices.overlaps[winnower/api.Entry]", "slices.overlaps[int]"], unfollowed := true, recurses := true, named := ["winnower/base.sizes"], apart := false, laid := [("winnower/base.sizes", laid_winnower_base_sizes)] }
def BasesExpireSaid : Prop := basesExpireRow.holds Tryd.pinned (OpenSpec.ofChange basesExpireSpec)

/-- ITS FALSE NEIGHBOUR: 'it returns false'. Refute it at one input. -/
def basesExpireWrong : ChangeSpec := { name := "basesExpire", fn := fun _ => fun
  | [d1, d2, d3] => { results := [.lit (.bool false)], args := [d1, d2, d3] }
  | _ => none }
def BasesExpireWrongFalsely : Prop := basesExpireRow.holds Tryd.pinned (OpenSpec.ofChange basesExpireWrong)

/-- 'winnowerkeep.TreesRange': WHATEVER THE INPUT: true; the input reads as it did. -/
def treesRangeSpec : ChangeSpec := { name := "treesRange", fn := fun _ => fun
  | [d1, d2, d3, d4] => { results := [.lit (.bool true)], args := [d1, d2, d3, d4] }
  | _ => none }
def treesRangeRow : OpenClaim := { program := "ytggcinmjmkfboaadoor", sum := "2d1b742dac9063a027413eafb79605a81eea3655b08c1b00f723aa5762f58286", func := "winnower/winnowerkeep.TreesRange", spec := "treesRange", inPlace := ["slices.overlaps[winnower/api.Entry]", "slices.overlaps[int]"], unfollowed := true, recurses := true, named := ["winnower/base.sizes"], apart := false, laid := [("winnower/base.sizes", laid_winnower_base_sizes)] }
def TreesRangeSaid : Prop := treesRangeRow.holds Tryd.pinned (OpenSpec.ofChange treesRangeSpec)

/-- ITS FALSE NEIGHBOUR: 'it returns false'. Refute it at one input. -/
def treesRangeWrong : ChangeSpec := { name := "treesRange", fn := fun _ => fun
  | [d1, d2, d3, d4] => { results := [.lit (.bool false)], args := [d1, d2, d3, d4] }
  | _ => none }
def TreesRangeWrongFalsely : Prop := treesRangeRow.holds Tryd.pinned (OpenSpec.ofChange treesRangeWrong)

/- THE SECOND FORM. 'bulk': how many values and letters a reading holds, each counted each time it is reached (what is shared counts as often as it is met; a slice's spare places count too). A statement '..UptoSaid' is the law's where the arguments, and the package variables that the reading takes, are together of bulk at most 1048576: NARROWER than '..Said'. Prove '..Said' where nothing that the law and all that it calls make is longer than what came in: it says more and counts as full. Else prove '..UptoSaid'. A law counts once. -/
mutual
def uptoBulk {H : Type} : DataW H → Nat
  | .lit (.string bytes) => bytes.length + 1
  | .lit _ => 1
  | .nil => 1
  | .ptr d => uptoBulk d + 1
  | .slice elems spare => uptoBulkAll elems + uptoBulkAll spare + 1
  | .agg parts => uptoBulkAll parts + 1
  | .iface _ d => uptoBulk d + 1
  | .map entries => uptoBulkEntries entries + 1
  | .held _ => 1
def uptoBulkAll {H : Type} : List (DataW H) → Nat
  | [] => 0
  | d :: r => uptoBulk d + uptoBulkAll r
def uptoBulkEntries {H : Type} : List (Lit × DataW H) → Nat
  | [] => 0
  | x :: r => uptoBulkEntry x + uptoBulkEntries r
def uptoBulkEntry {H : Type} : Lit × DataW H → Nat
  | (.string bytes, d) => bytes.length + uptoBulk d + 1
  | (_, d) => uptoBulk d + 1
 end
def uptoSmall : (H : Type) → List (DataW H) → Bool := fun _ ds => decide (uptoBulkAll ds ≤ 1048576)
def OpenSpec.upto (s : _root_.Go.ChangeSpec) : _root_.Go.OpenSpec := { _root_.Go.OpenSpec.ofChange s with cond := some uptoSmall }

/-- 'winnowerkeep.MergesAgree', WHERE WHAT IT READS IS OF BULK AT MOST 1048576: true; the input reads as it did. -/
def mergesAgreeUptoRow : OpenClaim := { program := "ytggcinmjmkfboaadoor", sum := "2d1b742dac9063a027413eafb79605a81eea3655b08c1b00f723aa5762f58286", func := "winnower/winnowerkeep.MergesAgree", spec := "mergesAgree", inPlace := ["slices.overlaps[winnower/api.Entry]", "slices.overlaps[int]"], unfollowed := true, recurses := true, named := ["winnower/base.sizes"], apart := false, laid := [("winnower/base.sizes", laid_winnower_base_sizes)], narrowed := true }
def MergesAgreeUptoSaid : Prop := mergesAgreeUptoRow.holds Tryd.pinned (OpenSpec.upto mergesAgreeSpec)

/-- 'winnowerkeep.TreesApart', WHERE WHAT IT READS IS OF BULK AT MOST 1048576: true; the input reads as it did. -/
def treesApartUptoRow : OpenClaim := { program := "ytggcinmjmkfboaadoor", sum := "2d1b742dac9063a027413eafb79605a81eea3655b08c1b00f723aa5762f58286", func := "winnower/winnowerkeep.TreesApart", spec := "treesApart", inPlace := ["slices.overlaps[winnower/api.Entry]", "slices.overlaps[int]"], unfollowed := true, recurses := true, named := ["winnower/base.sizes"], apart := false, laid := [("winnower/base.sizes", laid_winnower_base_sizes)], narrowed := true }
def TreesApartUptoSaid : Prop := treesApartUptoRow.holds Tryd.pinned (OpenSpec.upto treesApartSpec)

/-- 'winnowerkeep.TreesDeep', WHERE WHAT IT READS IS OF BULK AT MOST 1048576: true; the input reads as it did. -/
def treesDeepUptoRow : OpenClaim := { program := "ytggcinmjmkfboaadoor", sum := "2d1b742dac9063a027413eafb79605a81eea3655b08c1b00f723aa5762f58286", func := "winnower/winnowerkeep.TreesDeep", spec := "treesDeep", inPlace := ["slices.overlaps[winnower/api.Entry]", "slices.overlaps[int]"], unfollowed := true, recurses := true, named := ["winnower/base.sizes"], apart := false, laid := [("winnower/base.sizes", laid_winnower_base_sizes)], narrowed := true }
def TreesDeepUptoSaid : Prop := treesDeepUptoRow.holds Tryd.pinned (OpenSpec.upto treesDeepSpec)

/-- 'winnowerkeep.TreesOf', WHERE WHAT IT READS IS OF BULK AT MOST 1048576: true; the input reads as it did. -/
def treesOfUptoRow : OpenClaim := { program := "ytggcinmjmkfboaadoor", sum := "2d1b742dac9063a027413eafb79605a81eea3655b08c1b00f723aa5762f58286", func := "winnower/winnowerkeep.TreesOf", spec := "treesOf", inPlace := ["slices.overlaps[winnower/api.Entry]", "slices.overlaps[int]"], unfollowed := true, recurses := true, named := ["winnower/base.sizes"], apart := false, laid := [("winnower/base.sizes", laid_winnower_base_sizes)], narrowed := true }
def TreesOfUptoSaid : Prop := treesOfUptoRow.holds Tryd.pinned (OpenSpec.upto treesOfSpec)

/-- 'winnowerkeep.BasesRows', WHERE WHAT IT READS IS OF BULK AT MOST 1048576: true; the input reads as it did. -/
def basesRowsUptoRow : OpenClaim := { program := "ytggcinmjmkfboaadoor", sum := "2d1b742dac9063a027413eafb79605a81eea3655b08c1b00f723aa5762f58286", func := "winnower/winnowerkeep.BasesRows", spec := "basesRows", inPlace := ["slices.overlaps[winnower/api.Entry]", "slices.overlaps[int]"], unfollowed := true, recurses := true, named := ["winnower/base.sizes"], apart := false, laid := [("winnower/base.sizes", laid_winnower_base_sizes)], narrowed := true }
def BasesRowsUptoSaid : Prop := basesRowsUptoRow.holds Tryd.pinned (OpenSpec.upto basesRowsSpec)

/-- 'winnowerkeep.BasesTotal', WHERE WHAT IT READS IS OF BULK AT MOST 1048576: true; the input reads as it did. -/
def basesTotalUptoRow : OpenClaim := { program := "ytggcinmjmkfboaadoor", sum := "2d1b742dac9063a027413eafb79605a81eea3655b08c1b00f723aa5762f58286", func := "winnower/winnowerkeep.BasesTotal", spec := "basesTotal", inPlace := ["slices.overlaps[winnower/api.Entry]", "slices.overlaps[int]"], unfollowed := true, recurses := true, named := ["winnower/base.sizes"], apart := false, laid := [("winnower/base.sizes", laid_winnower_base_sizes)], narrowed := true }
def BasesTotalUptoSaid : Prop := basesTotalUptoRow.holds Tryd.pinned (OpenSpec.upto basesTotalSpec)

/-- 'winnowerkeep.BasesAny', WHERE WHAT IT READS IS OF BULK AT MOST 1048576: true; the input reads as it did. -/
def basesAnyUptoRow : OpenClaim := { program := "ytggcinmjmkfboaadoor", sum := "2d1b742dac9063a027413eafb79605a81eea3655b08c1b00f723aa5762f58286", func := "winnower/winnowerkeep.BasesAny", spec := "basesAny", inPlace := ["slices.overlaps[winnower/api.Entry]", "slices.overlaps[int]"], unfollowed := true, recurses := true, named := ["winnower/base.sizes"], apart := false, laid := [("winnower/base.sizes", laid_winnower_base_sizes)], narrowed := true }
def BasesAnyUptoSaid : Prop := basesAnyUptoRow.holds Tryd.pinned (OpenSpec.upto basesAnySpec)

/-- 'winnowerkeep.BasesBad', WHERE WHAT IT READS IS OF BULK AT MOST 1048576: true; the input reads as it did. -/
def basesBadUptoRow : OpenClaim := { program := "ytggcinmjmkfboaadoor", sum := "2d1b742dac9063a027413eafb79605a81eea3655b08c1b00f723aa5762f58286", func := "winnower/winnowerkeep.BasesBad", spec := "basesBad", inPlace := ["slices.overlaps[winnower/api.Entry]", "slices.overlaps[int]"], unfollowed := true, recurses := true, named := ["winnower/base.sizes"], apart := false, laid := [("winnower/base.sizes", laid_winnower_base_sizes)], narrowed := true }
def BasesBadUptoSaid : Prop := basesBadUptoRow.holds Tryd.pinned (OpenSpec.upto basesBadSpec)

/-- 'winnowerkeep.BasesExpire', WHERE WHAT IT READS IS OF BULK AT MOST 1048576: true; the input reads as it did. -/
def basesExpireUptoRow : OpenClaim := { program := "ytggcinmjmkfboaadoor", sum := "2d1b742dac9063a027413eafb79605a81eea3655b08c1b00f723aa5762f58286", func := "winnower/winnowerkeep.BasesExpire", spec := "basesExpire", inPlace := ["slices.overlaps[winnower/api.Entry]", "slices.overlaps[int]"], unfollowed := true, recurses := true, named := ["winnower/base.sizes"], apart := false, laid := [("winnower/base.sizes", laid_winnower_base_sizes)], narrowed := true }
def BasesExpireUptoSaid : Prop := basesExpireUptoRow.holds Tryd.pinned (OpenSpec.upto basesExpireSpec)

/-- 'winnowerkeep.TreesRange', WHERE WHAT IT READS IS OF BULK AT MOST 1048576: true; the input reads as it did. -/
def treesRangeUptoRow : OpenClaim := { program := "ytggcinmjmkfboaadoor", sum := "2d1b742dac9063a027413eafb79605a81eea3655b08c1b00f723aa5762f58286", func := "winnower/winnowerkeep.TreesRange", spec := "treesRange", inPlace := ["slices.overlaps[winnower/api.Entry]", "slices.overlaps[int]"], unfollowed := true, recurses := true, named := ["winnower/base.sizes"], apart := false, laid := [("winnower/base.sizes", laid_winnower_base_sizes)], narrowed := true }
def TreesRangeUptoSaid : Prop := treesRangeUptoRow.holds Tryd.pinned (OpenSpec.upto treesRangeSpec)

end Rows
end Go.Proofs.YtggcinmjmkfboaaDoor
