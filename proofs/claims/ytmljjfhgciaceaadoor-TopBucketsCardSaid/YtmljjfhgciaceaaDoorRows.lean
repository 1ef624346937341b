/-
  NARROWER THAN 'FOR EVERY INPUT', by the rows' own cells (each row's printed sentence says how): TopTotals: laid · TopBuckets: laid · TopAsking: laid · BaseAdds: laid · ScriptsGood: laid · TopSwap: laid · TopSteps: laid · TopBack: laid · TopSaved: laid.
  DERIVED. THE GIVEN ROWS OF THIS SEAT. 9 by the template 'for every input the law returns true; each argument reads behind the call as it read before'; 0 by the template 'total and deterministic' (their statements: YtmljjfhgciaceaaDoorTotals.lean).
  GIVEN WITH THE SEED: the statements are not yours to turn. If you find one false, say at which input.
  Laid BY PROGRAM, IN A SANDBOX (cutbox-rows.mjs): the forced cells as the released guide's own fill.sh prints them over the translation edec83b42c99c825… (all of the seat's roots in one cut). By AI agents, Wed Nov 11 2026. No macro, syntax, notation, axiom, sorry.
-/
import Derived.Test.YtmljjfhgciaceaaDoorChecked
import GoSem.Claim
import GoSem.ClaimJoined
import GoSem.ClaimMapViews
import Derived.JoinedTies
import Derived.KernelRfl
namespace Go.Proofs.YtmljjfhgciaceaaDoor
/- THE CELL 'sum', in the pinned program and in every row, IS THE sha256 OF THE DUMP (.gsa) THAT YtmljjfhgciaceaaDoorProg.lean LOADS. Nothing in Lean hashes anything: it is a label: what it is worth is what the hold of that sum in a sandbox is worth. -/
noncomputable def Tryd.pinned : Pinned := { name := "ytmljjfhgciaceaadoor", sum := "edec83b42c99c8256d71eebb94bfbb4e1064f6f1c56a8d1be0522bce7ed808ce", checked := Tryd.checked }
namespace Rows
def none {H : Type} : Left H := { results := [], args := [] }

/- WHAT THE LISTED PACKAGE-LEVEL VARIABLES READ AS WHEN THE CALL BEGINS. Each datum BY PROGRAM (the guide's laid-datum.mjs) off the statement by which the dump's own 'gosem.cut.vars' lays the variable. In a bare row this is a premise. The card (YtmljjfhgciaceaaDoorCards.lean) ties it to the program's text. -/
def laid_winnower_base_sizes {H : Type} : DataW H := .agg [.lit (.int .i64 1), .lit (.int .i64 60), .lit (.int .i64 3600)]

/-- 'winnowertop.TopTotals': WHATEVER THE INPUT: true; the input reads as it did. -/
def topTotalsSpec : ChangeSpec := { name := "topTotals", fn := fun _ => fun
  | [d1, d2, d3] => { results := [.lit (.bool true)], args := [d1, d2, d3] }
  | _ => none }
def topTotalsRow : OpenClaim := { program := "ytmljjfhgciaceaadoor", sum := "edec83b42c99c8256d71eebb94bfbb4e1064f6f1c56a8d1be0522bce7ed808ce", func := "winnower/winnowertop.TopTotals", spec := "topTotals", inPlace := ["slices.overlaps[winnower/api.Entry]", "slices.overlaps[int]"], unfollowed := true, recurses := true, named := ["winnower/base.sizes"], apart := false, laid := [("winnower/base.sizes", laid_winnower_base_sizes)] }
def TopTotalsSaid : Prop := topTotalsRow.holds Tryd.pinned (OpenSpec.ofChange topTotalsSpec)

/-- ITS FALSE NEIGHBOUR: 'it returns false'. Refute it at one input. -/
def topTotalsWrong : ChangeSpec := { name := "topTotals", fn := fun _ => fun
  | [d1, d2, d3] => { results := [.lit (.bool false)], args := [d1, d2, d3] }
  | _ => none }
def TopTotalsWrongFalsely : Prop := topTotalsRow.holds Tryd.pinned (OpenSpec.ofChange topTotalsWrong)

/-- 'winnowertop.TopBuckets': WHATEVER THE INPUT: true; the input reads as it did. -/
def topBucketsSpec : ChangeSpec := { name := "topBuckets", fn := fun _ => fun
  | [d1, d2] => { results := [.lit (.bool true)], args := [d1, d2] }
  | _ => none }
def topBucketsRow : OpenClaim := { program := "ytmljjfhgciaceaadoor", sum := "edec83b42c99c8256d71eebb94bfbb4e1064f6f1c56a8d1be0522bce7ed808ce", func := "winnower/winnowertop.TopBuckets", spec := "topBuckets", inPlace := ["slices.overlaps[winnower/api.Entry]", "slices.overlaps[int]"], unfollowed := true, recurses := true, named := ["winnower/base.sizes"], apart := false, laid := [("winnower/base.sizes", laid_winnower_base_sizes)] }
def TopBucketsSaid : Prop := topBucketsRow.holds Tryd.pinned (OpenSpec.ofChange topBucketsSpec)

/-- ITS FALSE NEIGHBOUR: 'it returns false'. Refute it at one input. -/
def topBucketsWrong : ChangeSpec := { name := "topBuckets", fn := fun _ => fun
  | [d1, d2] => { results := [.lit (.bool false)], args := [d1, d2] }
  | _ => none }
def TopBucketsWrongFalsely : Prop := topBucketsRow.holds Tryd.pinned (OpenSpec.ofChange topBucketsWrong)

/-- 'winnowertop.TopAsking': WHATEVER THE INPUT: true; the input reads as it did. -/
def topAskingSpec : ChangeSpec := { name := "topAsking", fn := fun _ => fun
  | [d] => { results := [.lit (.bool true)], args := [d] }
  | _ => none }
def topAskingRow : OpenClaim := { program := "ytmljjfhgciaceaadoor", sum := "edec83b42c99c8256d71eebb94bfbb4e1064f6f1c56a8d1be0522bce7ed808ce", func := "winnower/winnowertop.TopAsking", spec := "topAsking", inPlace := ["slices.overlaps[winnower/api.Entry]", "slices.overlaps[int]"], unfollowed := true, recurses := true, named := ["winnower/base.sizes"], apart := false, laid := [("winnower/base.sizes", laid_winnower_base_sizes)] }
def TopAskingSaid : Prop := topAskingRow.holds Tryd.pinned (OpenSpec.ofChange topAskingSpec)

/-- ITS FALSE NEIGHBOUR: 'it returns false'. Refute it at one input. -/
def topAskingWrong : ChangeSpec := { name := "topAsking", fn := fun _ => fun
  | [d] => { results := [.lit (.bool false)], args := [d] }
  | _ => none }
def TopAskingWrongFalsely : Prop := topAskingRow.holds Tryd.pinned (OpenSpec.ofChange topAskingWrong)

/-- 'winnowerlaw.BaseAdds': WHATEVER THE INPUT: true; the input reads as it did. -/
def baseAddsSpec : ChangeSpec := { name := "baseAdds", fn := fun _ => fun
  | [d1, d2] => { results := [.lit (.bool true)], args := [d1, d2] }
  | _ => none }
def baseAddsRow : OpenClaim := { program := "ytmljjfhgciaceaadoor", sum := "edec83b42c99c8256d71eebb94bfbb4e1064f6f1c56a8d1be0522bce7ed808ce", func := "winnower/winnowerlaw.BaseAdds", spec := "baseAdds", inPlace := ["slices.overlaps[winnower/api.Entry]", "slices.overlaps[int]"], unfollowed := true, recurses := true, named := ["winnower/base.sizes"], apart := false, laid := [("winnower/base.sizes", laid_winnower_base_sizes)] }
def BaseAddsSaid : Prop := baseAddsRow.holds Tryd.pinned (OpenSpec.ofChange baseAddsSpec)

/-- ITS FALSE NEIGHBOUR: 'it returns false'. Refute it at one input. -/
def baseAddsWrong : ChangeSpec := { name := "baseAdds", fn := fun _ => fun
  | [d1, d2] => { results := [.lit (.bool false)], args := [d1, d2] }
  | _ => none }
def BaseAddsWrongFalsely : Prop := baseAddsRow.holds Tryd.pinned (OpenSpec.ofChange baseAddsWrong)

/-- 'winnowerkeep.ScriptsGood': WHATEVER THE INPUT: true; the input reads as it did. -/
def scriptsGoodSpec : ChangeSpec := { name := "scriptsGood", fn := fun _ => fun
  | [d1, d2] => { results := [.lit (.bool true)], args := [d1, d2] }
  | _ => none }
def scriptsGoodRow : OpenClaim := { program := "ytmljjfhgciaceaadoor", sum := "edec83b42c99c8256d71eebb94bfbb4e1064f6f1c56a8d1be0522bce7ed808ce", func := "winnower/winnowerkeep.ScriptsGood", spec := "scriptsGood", inPlace := ["slices.overlaps[winnower/api.Entry]", "slices.overlaps[int]"], unfollowed := true, recurses := true, named := ["winnower/base.sizes"], apart := false, laid := [("winnower/base.sizes", laid_winnower_base_sizes)] }
def ScriptsGoodSaid : Prop := scriptsGoodRow.holds Tryd.pinned (OpenSpec.ofChange scriptsGoodSpec)

/-- ITS FALSE NEIGHBOUR: 'it returns false'. Refute it at one input. -/
def scriptsGoodWrong : ChangeSpec := { name := "scriptsGood", fn := fun _ => fun
  | [d1, d2] => { results := [.lit (.bool false)], args := [d1, d2] }
  | _ => none }
def ScriptsGoodWrongFalsely : Prop := scriptsGoodRow.holds Tryd.pinned (OpenSpec.ofChange scriptsGoodWrong)

/-- 'winnowertop.TopSwap': WHATEVER THE INPUT: true; the input reads as it did. -/
def topSwapSpec : ChangeSpec := { name := "topSwap", fn := fun _ => fun
  | [d1, d2, d3] => { results := [.lit (.bool true)], args := [d1, d2, d3] }
  | _ => none }
def topSwapRow : OpenClaim := { program := "ytmljjfhgciaceaadoor", sum := "edec83b42c99c8256d71eebb94bfbb4e1064f6f1c56a8d1be0522bce7ed808ce", func := "winnower/winnowertop.TopSwap", spec := "topSwap", inPlace := ["slices.overlaps[winnower/api.Entry]", "slices.overlaps[int]"], unfollowed := true, recurses := true, named := ["winnower/base.sizes"], apart := false, laid := [("winnower/base.sizes", laid_winnower_base_sizes)] }
def TopSwapSaid : Prop := topSwapRow.holds Tryd.pinned (OpenSpec.ofChange topSwapSpec)

/-- ITS FALSE NEIGHBOUR: 'it returns false'. Refute it at one input. -/
def topSwapWrong : ChangeSpec := { name := "topSwap", fn := fun _ => fun
  | [d1, d2, d3] => { results := [.lit (.bool false)], args := [d1, d2, d3] }
  | _ => none }
def TopSwapWrongFalsely : Prop := topSwapRow.holds Tryd.pinned (OpenSpec.ofChange topSwapWrong)

/-- 'winnowertop.TopSteps': WHATEVER THE INPUT: true; the input reads as it did. -/
def topStepsSpec : ChangeSpec := { name := "topSteps", fn := fun _ => fun
  | [d1, d2] => { results := [.lit (.bool true)], args := [d1, d2] }
  | _ => none }
def topStepsRow : OpenClaim := { program := "ytmljjfhgciaceaadoor", sum := "edec83b42c99c8256d71eebb94bfbb4e1064f6f1c56a8d1be0522bce7ed808ce", func := "winnower/winnowertop.TopSteps", spec := "topSteps", inPlace := ["slices.overlaps[winnower/api.Entry]", "slices.overlaps[int]"], unfollowed := true, recurses := true, named := ["winnower/base.sizes"], apart := false, laid := [("winnower/base.sizes", laid_winnower_base_sizes)] }
def TopStepsSaid : Prop := topStepsRow.holds Tryd.pinned (OpenSpec.ofChange topStepsSpec)

/-- ITS FALSE NEIGHBOUR: 'it returns false'. Refute it at one input. -/
def topStepsWrong : ChangeSpec := { name := "topSteps", fn := fun _ => fun
  | [d1, d2] => { results := [.lit (.bool false)], args := [d1, d2] }
  | _ => none }
def TopStepsWrongFalsely : Prop := topStepsRow.holds Tryd.pinned (OpenSpec.ofChange topStepsWrong)

/-- 'winnowertop.TopBack': WHATEVER THE INPUT: true; the input reads as it did. -/
def topBackSpec : ChangeSpec := { name := "topBack", fn := fun _ => fun
  | [d1, d2] => { results := [.lit (.bool true)], args := [d1, d2] }
  | _ => none }
def topBackRow : OpenClaim := { program := "ytmljjfhgciaceaadoor", sum := "edec83b42c99c8256d71eebb94bfbb4e1064f6f1c56a8d1be0522bce7ed808ce", func := "winnower/winnowertop.TopBack", spec := "topBack", inPlace := ["slices.overlaps[winnower/api.Entry]", "slices.overlaps[int]"], unfollowed := true, recurses := true, named := ["winnower/base.sizes"], apart := false, laid := [("winnower/base.sizes", laid_winnower_base_sizes)] }
def TopBackSaid : Prop := topBackRow.holds Tryd.pinned (OpenSpec.ofChange topBackSpec)

/-- ITS FALSE NEIGHBOUR: 'it returns false'. Refute it at one input. -/
def topBackWrong : ChangeSpec := { name := "topBack", fn := fun _ => fun
  | [d1, d2] => { results := [.lit (.bool false)], args := [d1, d2] }
  | _ => none }
def TopBackWrongFalsely : Prop := topBackRow.holds Tryd.pinned (OpenSpec.ofChange topBackWrong)

/-- 'winnowertop.TopSaved': WHATEVER THE INPUT: true; the input reads as it did. -/
def topSavedSpec : ChangeSpec := { name := "topSaved", fn := fun _ => fun
  | [d1, d2] => { results := [.lit (.bool true)], args := [d1, d2] }
  | _ => none }
def topSavedRow : OpenClaim := { program := "ytmljjfhgciaceaadoor", sum := "edec83b42c99c8256d71eebb94bfbb4e1064f6f1c56a8d1be0522bce7ed808ce", func := "winnower/winnowertop.TopSaved", spec := "topSaved", inPlace := ["slices.overlaps[winnower/api.Entry]", "slices.overlaps[int]"], unfollowed := true, recurses := true, named := ["winnower/base.sizes"], apart := false, laid := [("winnower/base.sizes", laid_winnower_base_sizes)] }
def TopSavedSaid : Prop := topSavedRow.holds Tryd.pinned (OpenSpec.ofChange topSavedSpec)

/-- ITS FALSE NEIGHBOUR: 'it returns false'. Refute it at one input. -/
def topSavedWrong : ChangeSpec := { name := "topSaved", fn := fun _ => fun
  | [d1, d2] => { results := [.lit (.bool false)], args := [d1, d2] }
  | _ => none }
def TopSavedWrongFalsely : Prop := topSavedRow.holds Tryd.pinned (OpenSpec.ofChange topSavedWrong)

/- THE SECOND FORM. 'bulk': how many values and letters a reading holds, each counted each time it is reached (what is shared counts as often as it is met; a slice's spare places count too). A statement '..UptoSaid' is the law's where the arguments, and the package variables that the reading takes, are together of bulk at most 1048576: NARROWER than '..Said'. Prove '..Said' where nothing that the law and all that it calls make is longer than what came in: it says more and counts as full. Else prove '..UptoSaid'. A law counts once. -/
mutual
def uptoBulk {H : Type} : DataW H → Nat
  | .lit (.string bytes) => bytes.length + 1
  | .lit _ => 1
  | .nil => 1
  | .ptr d => uptoBulk d + 1
  | .slice elems spare => uptoBulkAll elems + uptoBulkAll spare + 1
  | .agg parts => uptoBulkAll parts + 1
  | .iface _ d => uptoBulk d + 1
  | .map entries => uptoBulkEntries entries + 1
  | .held _ => 1
def uptoBulkAll {H : Type} : List (DataW H) → Nat
  | [] => 0
  | d :: r => uptoBulk d + uptoBulkAll r
def uptoBulkEntries {H : Type} : List (Lit × DataW H) → Nat
  | [] => 0
  | x :: r => uptoBulkEntry x + uptoBulkEntries r
def uptoBulkEntry {H : Type} : Lit × DataW H → Nat
  | (.string bytes, d) => bytes.length + uptoBulk d + 1
  | (_, d) => uptoBulk d + 1
 end
def uptoSmall : (H : Type) → List (DataW H) → Bool := fun _ ds => decide (uptoBulkAll ds ≤ 1048576)
def OpenSpec.upto (s : _root_.Go.ChangeSpec) : _root_.Go.OpenSpec := { _root_.Go.OpenSpec.ofChange s with cond := some uptoSmall }

/-- 'winnowertop.TopTotals', WHERE WHAT IT READS IS OF BULK AT MOST 1048576: true; the input reads as it did. -/
def topTotalsUptoRow : OpenClaim := { program := "ytmljjfhgciaceaadoor", sum := "edec83b42c99c8256d71eebb94bfbb4e1064f6f1c56a8d1be0522bce7ed808ce", func := "winnower/winnowertop.TopTotals", spec := "topTotals", inPlace := ["slices.overlaps[winnower/api.Entry]", "slices.overlaps[int]"], unfollowed := true, recurses := true, named := ["winnower/base.sizes"], apart := false, laid := [("winnower/base.sizes", laid_winnower_base_sizes)], narrowed := true }
def TopTotalsUptoSaid : Prop := topTotalsUptoRow.holds Tryd.pinned (OpenSpec.upto topTotalsSpec)

/-- 'winnowertop.TopBuckets', WHERE WHAT IT READS IS OF BULK AT MOST 1048576: true; the input reads as it did. -/
def topBucketsUptoRow : OpenClaim := { program := "ytmljjfhgciaceaadoor", sum := "edec83b42c99c8256d71eebb94bfbb4e1064f6f1c56a8d1be0522bce7ed808ce", func := "winnower/winnowertop.TopBuckets", spec := "topBuckets", inPlace := ["slices.overlaps[winnower/api.Entry]", "slices.overlaps[int]"], unfollowed := true, recurses := true, named := ["winnower/base.sizes"], apart := false, laid := [("winnower/base.sizes", laid_winnower_base_sizes)], narrowed := true }
def TopBucketsUptoSaid : Prop := topBucketsUptoRow.holds Tryd.pinned (OpenSpec.upto topBucketsSpec)

/-- 'winnowertop.TopAsking', WHERE WHAT IT READS IS OF BULK AT MOST 1048576: true; the input reads as it did. -/
def topAskingUptoRow : OpenClaim := { program := "ytmljjfhgciaceaadoor", sum := "edec83b42c99c8256d71eebb94bfbb4e1064f6f1c56a8d1be0522bce7ed808ce", func := "winnower/winnowertop.TopAsking", spec := "topAsking", inPlace := ["slices.overlaps[winnower/api.Entry]", "slices.overlaps[int]"], unfollowed := true, recurses := true, named := ["winnower/base.sizes"], apart := false, laid := [("winnower/base.sizes", laid_winnower_base_sizes)], narrowed := true }
def TopAskingUptoSaid : Prop := topAskingUptoRow.holds Tryd.pinned (OpenSpec.upto topAskingSpec)

/-- 'winnowerlaw.BaseAdds', WHERE WHAT IT READS IS OF BULK AT MOST 1048576: true; the input reads as it did. -/
def baseAddsUptoRow : OpenClaim := { program := "ytmljjfhgciaceaadoor", sum := "edec83b42c99c8256d71eebb94bfbb4e1064f6f1c56a8d1be0522bce7ed808ce", func := "winnower/winnowerlaw.BaseAdds", spec := "baseAdds", inPlace := ["slices.overlaps[winnower/api.Entry]", "slices.overlaps[int]"], unfollowed := true, recurses := true, named := ["winnower/base.sizes"], apart := false, laid := [("winnower/base.sizes", laid_winnower_base_sizes)], narrowed := true }
def BaseAddsUptoSaid : Prop := baseAddsUptoRow.holds Tryd.pinned (OpenSpec.upto baseAddsSpec)

/-- 'winnowerkeep.ScriptsGood', WHERE WHAT IT READS IS OF BULK AT MOST 1048576: true; the input reads as it did. -/
def scriptsGoodUptoRow : OpenClaim := { program := "ytmljjfhgciaceaadoor", sum := "edec83b42c99c8256d71eebb94bfbb4e1064f6f1c56a8d1be0522bce7ed808ce", func := "winnower/winnowerkeep.ScriptsGood", spec := "scriptsGood", inPlace := ["slices.overlaps[winnower/api.Entry]", "slices.overlaps[int]"], unfollowed := true, recurses := true, named := ["winnower/base.sizes"], apart := false, laid := [("winnower/base.sizes", laid_winnower_base_sizes)], narrowed := true }
def ScriptsGoodUptoSaid : Prop := scriptsGoodUptoRow.holds Tryd.pinned (OpenSpec.upto scriptsGoodSpec)

/-- 'winnowertop.TopSwap', WHERE WHAT IT READS IS OF BULK AT MOST 1048576: true; the input reads as it did. -/
def topSwapUptoRow : OpenClaim := { program := "ytmljjfhgciaceaadoor", sum := "edec83b42c99c8256d71eebb94bfbb4e1064f6f1c56a8d1be0522bce7ed808ce", func := "winnower/winnowertop.TopSwap", spec := "topSwap", inPlace := ["slices.overlaps[winnower/api.Entry]", "slices.overlaps[int]"], unfollowed := true, recurses := true, named := ["winnower/base.sizes"], apart := false, laid := [("winnower/base.sizes", laid_winnower_base_sizes)], narrowed := true }
def TopSwapUptoSaid : Prop := topSwapUptoRow.holds Tryd.pinned (OpenSpec.upto topSwapSpec)

/-- 'winnowertop.TopSteps', WHERE WHAT IT READS IS OF BULK AT MOST 1048576: true; the input reads as it did. -/
def topStepsUptoRow : OpenClaim := { program := "ytmljjfhgciaceaadoor", sum := "edec83b42c99c8256d71eebb94bfbb4e1064f6f1c56a8d1be0522bce7ed808ce", func := "winnower/winnowertop.TopSteps", spec := "topSteps", inPlace := ["slices.overlaps[winnower/api.Entry]", "slices.overlaps[int]"], unfollowed := true, recurses := true, named := ["winnower/base.sizes"], apart := false, laid := [("winnower/base.sizes", laid_winnower_base_sizes)], narrowed := true }
def TopStepsUptoSaid : Prop := topStepsUptoRow.holds Tryd.pinned (OpenSpec.upto topStepsSpec)

/-- 'winnowertop.TopBack', WHERE WHAT IT READS IS OF BULK AT MOST 1048576: true; the input reads as it did. -/
def topBackUptoRow : OpenClaim := { program := "ytmljjfhgciaceaadoor", sum := "edec83b42c99c8256d71eebb94bfbb4e1064f6f1c56a8d1be0522bce7ed808ce", func := "winnower/winnowertop.TopBack", spec := "topBack", inPlace := ["slices.overlaps[winnower/api.Entry]", "slices.overlaps[int]"], unfollowed := true, recurses := true, named := ["winnower/base.sizes"], apart := false, laid := [("winnower/base.sizes", laid_winnower_base_sizes)], narrowed := true }
def TopBackUptoSaid : Prop := topBackUptoRow.holds Tryd.pinned (OpenSpec.upto topBackSpec)

/-- 'winnowertop.TopSaved', WHERE WHAT IT READS IS OF BULK AT MOST 1048576: true; the input reads as it did. -/
def topSavedUptoRow : OpenClaim := { program := "ytmljjfhgciaceaadoor", sum := "edec83b42c99c8256d71eebb94bfbb4e1064f6f1c56a8d1be0522bce7ed808ce", func := "winnower/winnowertop.TopSaved", spec := "topSaved", inPlace := ["slices.overlaps[winnower/api.Entry]", "slices.overlaps[int]"], unfollowed := true, recurses := true, named := ["winnower/base.sizes"], apart := false, laid := [("winnower/base.sizes", laid_winnower_base_sizes)], narrowed := true }
def TopSavedUptoSaid : Prop := topSavedUptoRow.holds Tryd.pinned (OpenSpec.upto topSavedSpec)

end Rows
end Go.Proofs.YtmljjfhgciaceaaDoor
