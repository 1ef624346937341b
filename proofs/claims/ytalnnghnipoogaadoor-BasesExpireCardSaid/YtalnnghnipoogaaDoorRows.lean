/-
  NARROWER THAN 'FOR EVERY INPUT', by the rows' own cells (each row's printed sentence says how): BaseAdds: laid · BasesRows: laid · BasesTotal: laid · BasesAny: laid · BasesBad: laid · BasesExpire: laid · FilesOnce: laid · FilesBack: laid.
  DERIVED. THE GIVEN ROWS OF THIS SEAT. 8 by the template 'for every input the law returns true; each argument reads behind the call as it read before'; 0 by the template 'total and deterministic' (their statements: YtalnnghnipoogaaDoorTotals.lean).
  GIVEN WITH THE SEED: the statements are not yours to turn. If you find one false, say at which input.
  Laid BY PROGRAM, IN A SANDBOX (cutbox-rows.mjs): the forced cells as the released guide's own fill.sh prints them over the translation ca2d9de6bdededec… (all of the seat's roots in one cut). By AI agents, Wed Nov 11 2026. No macro, syntax, notation, axiom, sorry.
-/
import Derived.Test.YtalnnghnipoogaaDoorChecked
import GoSem.Claim
import GoSem.ClaimJoined
import GoSem.ClaimMapViews
import Derived.JoinedTies
import Derived.KernelRfl
namespace Go.Proofs.YtalnnghnipoogaaDoor
/- THE CELL 'sum', in the pinned program and in every row, IS THE sha256 OF THE DUMP (.gsa) THAT YtalnnghnipoogaaDoorProg.lean LOADS. Nothing in Lean hashes anything: it is a label: what it is worth is what the hold of that sum in a sandbox is worth. -/
noncomputable def Tryd.pinned : Pinned := { name := "ytalnnghnipoogaadoor", sum := "ca2d9de6bdededec156a4d04ad093efab81b287f6e93986ac3312a5e1a75c9a8", checked := Tryd.checked }
namespace Rows
def none {H : Type} : Left H := { results := [], args := [] }

/- WHAT THE LISTED PACKAGE-LEVEL VARIABLES READ AS WHEN THE CALL BEGINS. Each datum BY PROGRAM (the guide's laid-datum.mjs) off the statement by which the dump's own 'gosem.cut.vars' lays the variable. In a bare row this is a premise. The card (YtalnnghnipoogaaDoorCards.lean) ties it to the program's text. -/
def laid_winnower_base_sizes {H : Type} : DataW H := .agg [.lit (.int .i64 1), .lit (.int .i64 60), .lit (.int .i64 3600)]

/-- 'winnowerlaw.BaseAdds': WHATEVER THE INPUT: true; the input reads as it did. -/
def baseAddsSpec : ChangeSpec := { name := "baseAdds", fn := fun _ => fun
  | [d1, d2] => { results := [.lit (.bool true)], args := [d1, d2] }
  | _ => none }
def baseAddsRow : OpenClaim := { program := "ytalnnghnipoogaadoor", sum := "ca2d9de6bdededec156a4d04ad093efab81b287f6e93986ac3312a5e1a75c9a8", func := "winnower/winnowerlaw.BaseAdds", spec := "baseAdds", inPlace := ["slices.overlaps[winnower/api.Entry]", "slices.overlaps[int]"], unfollowed := true, recurses := true, named := ["winnower/base.sizes"], apart := false, laid := [("winnower/base.sizes", laid_winnower_base_sizes)] }
def BaseAddsSaid : Prop := baseAddsRow.holds Tryd.pinned (OpenSpec.ofChange baseAddsSpec)

/-- ITS FALSE NEIGHBOUR: 'it returns false'. Refute it at one input. -/
def baseAddsWrong : ChangeSpec := { name := "baseAdds", fn := fun _ => fun
  | [d1, d2] => { results := [.lit (.bool false)], args := [d1, d2] }
  | _ => none }
def BaseAddsWrongFalsely : Prop := baseAddsRow.holds Tryd.pinned (OpenSpec.ofChange baseAddsWrong)

/-- 'winnowerkeep.BasesRows': WHATEVER THE INPUT: true; the input reads as it did. -/
def basesRowsSpec : ChangeSpec := { name := "basesRows", fn := fun _ => fun
  | [d1, d2, d3] => { results := [.lit (.bool true)], args := [d1, d2, d3] }
  | _ => none }
def basesRowsRow : OpenClaim := { program := "ytalnnghnipoogaadoor", sum := "ca2d9de6bdededec156a4d04ad093efab81b287f6e93986ac3312a5e1a75c9a8", func := "winnower/winnowerkeep.BasesRows", spec := "basesRows", inPlace := ["slices.overlaps[winnower/api.Entry]", "slices.overlaps[int]"], unfollowed := true, recurses := true, named := ["winnower/base.sizes"], apart := false, laid := [("winnower/base.sizes", laid_winnower_base_sizes)] }
def BasesRowsSaid : Prop := basesRowsRow.holds Tryd.pinned (OpenSpec.ofChange basesRowsSpec)

/-- ITS FALSE NEIGHBOUR: 'it returns false'. Refute it at one input. -/
def basesRowsWrong : ChangeSpec := { name := "basesRows", fn := fun _ => fun
  | [d1, d2, d3] => { results := [.lit (.bool false)], args := [d1, d2, d3] }
  | _ => none }
def BasesRowsWrongFalsely : Prop := basesRowsRow.holds Tryd.pinned (OpenSpec.ofChange basesRowsWrong)

/-- 'winnowerkeep.BasesTotal': WHATEVER THE INPUT: true; the input reads as it did. -/
def basesTotalSpec : ChangeSpec := { name := "basesTotal", fn := fun _ => fun
  | [d1, d2, d3, d4] => { results := [.lit (.bool true)], args := [d1, d2, d3, d4] }
  | _ => none }
def basesTotalRow : OpenClaim := { program := "ytalnnghnipoogaadoor", sum := "ca2d9de6bdededec156a4d04ad093efab81b287f6e93986ac3312a5e1a75c9a8", func := "winnower/winnowerkeep.BasesTotal", spec := "basesTotal", inPlace := ["slices.overlaps[winnower/api.Entry]", "slices.overlaps[int]"], unfollowed := true, recurses := true, named := ["winnower/base.sizes"], apart := false, laid := [("winnower/base.sizes", laid_winnower_base_sizes)] }
def BasesTotalSaid : Prop := basesTotalRow.holds Tryd.pinned (OpenSpec.ofChange basesTotalSpec)

/-- ITS FALSE NEIGHBOUR: 'it returns false'. Refute it at one input. -/
def basesTotalWrong : ChangeSpec := { name := "basesTotal", fn := fun _ => fun
  | [d1, d2, d3, d4] => { results := [.lit (.bool false)], args := [d1, d2, d3, d4] }
  | _ => none }
def BasesTotalWrongFalsely : Prop := basesTotalRow.holds Tryd.pinned (OpenSpec.ofChange basesTotalWrong)

/-- 'winnowerkeep.BasesAny': WHATEVER THE INPUT: true; the input reads as it did. -/
def basesAnySpec : ChangeSpec := { name := "basesAny", fn := fun _ => fun
  | [d1, d2, d3] => { results := [.lit (.bool true)], args := [d1, d2, d3] }
  | _ => none }
def basesAnyRow : OpenClaim := { program := "ytalnnghnipoogaadoor", sum := "ca2d9de6bdededec156a4d04ad093efab81b287f6e93986ac3312a5e1a75c9a8", func := "winnower/winnowerkeep.BasesAny", spec := "basesAny", inPlace := ["slices.overlaps[winnower/api.Entry]", "slices.overlaps[int]"], unfollowed := true, recurses := true, named := ["winnower/base.sizes"], apart := false, laid := [("winnower/base.sizes", laid_winnower_base_sizes)] }
def BasesAnySaid : Prop := basesAnyRow.holds Tryd.pinned (OpenSpec.ofChange basesAnySpec)

/-- ITS FALSE NEIGHBOUR: 'it returns false'. Refute it at one input. -/
def basesAnyWrong : ChangeSpec := { name := "basesAny", fn := fun _ => fun
  | [d1, d2, d3] => { results := [.lit (.bool false)], args := [d1, d2, d3] }
  | _ => none }
def BasesAnyWrongFalsely : Prop := basesAnyRow.holds Tryd.pinned (OpenSpec.ofChange basesAnyWrong)

/-- 'winnowerkeep.BasesBad': WHATEVER THE INPUT: true; the input reads as it did. -/
def basesBadSpec : ChangeSpec := { name := "basesBad", fn := fun _ => fun
  | [d1, d2, d3] => { results := [.lit (.bool true)], args := [d1, d2, d3] }
  | _ => none }
def basesBadRow : OpenClaim := { program := "ytalnnghnipoogaadoor", sum := "ca2d9de6bdededec156a4d04ad093efab81b287f6e93986ac3312a5e1a75c9a8", func := "winnower/winnowerkeep.BasesBad", spec := "basesBad", inPlace := ["slices.overlaps[winnower/api.Entry]", "slices.overlaps[int]"], unfollowed := true, recurses := true, named := ["winnower/base.sizes"], apart := false, laid := [("winnower/base.sizes", laid_winnower_base_sizes)] }
def BasesBadSaid : Prop := basesBadRow.holds Tryd.pinned (OpenSpec.ofChange basesBadSpec)

/-- ITS FALSE NEIGHBOUR: 'it returns false'. Refute it at one input. -/
def basesBadWrong : ChangeSpec := { name := "basesBad", fn := fun _ => fun
  | [d1, d2, d3] => { results := [.lit (.bool false)], args := [d1, d2, d3] }
  | _ => none }
def BasesBadWrongFalsely : Prop := basesBadRow.holds Tryd.pinned (OpenSpec.ofChange basesBadWrong)

/-- 'winnowerkeep.BasesExpire': WHATEVER THE INPUT: true; the input reads as it did. -/
def basesExpireSpec : ChangeSpec := { name := "basesExpire", fn := fun _ => fun
  | [d1, d2, d3] => { results := [.lit (.bool true)], args := [d1, d2, d3] }
  | _ => none }
def basesExpireRow : OpenClaim := { program := "ytalnnghnipoogaadoor", sum := "ca2d9de6bdededec156a4d04ad093efab81b287f6e93986ac3312a5e1a75c9a8", func := "winnower/winnowerkeep.BasesExpire", spec := "basesExpire", inPlace := ["slices.overlaps[winnower/api.Entry]", "slices.overlaps[int]"], unfollowed := true, recurses := true, named := ["winnower/base.sizes"], apart := false, laid := [("winnower/base.sizes", laid_winnower_base_sizes)] }
def BasesExpireSaid : Prop := basesExpireRow.holds Tryd.pinned (OpenSpec.ofChange basesExpireSpec)

/-- ITS FALSE NEIGHBOUR: 'it returns false'. Refute it at one input. -/
def basesExpireWrong : ChangeSpec := { name := "basesExpire", fn := fun _ => fun
  | [d1, d2, d3] => { results := [.lit (.bool false)], args := [d1, d2, d3] }
  | _ => none }
def BasesExpireWrongFalsely : Prop := basesExpireRow.holds Tryd.pinned (OpenSpec.ofChange basesExpireWrong)

/-- 'winnowerkeep.FilesOnce': WHATEVER THE INPUT: true; the input reads as it did. -/
def filesOnceSpec : ChangeSpec := { name := "filesOnce", fn := fun _ => fun
  | [d] => { results := [.lit (.bool true)], args := [d] }
  | _ => none }
def filesOnceRow : OpenClaim := { program := "ytalnnghnipoogaadoor", sum := "ca2d9de6bdededec156a4d04ad093efab81b287f6e93986ac3312a5e1a75c9a8", func := "winnower/winnowerkeep.FilesOnce", spec := "filesOnce", inPlace := ["slices.overlaps[winnower/api.Entry]", "slices.overlaps[int]"], unfollowed := true, recurses := true, named := ["winnower/base.sizes"], apart := false, laid := [("winnower/base.sizes", laid_winnower_base_sizes)] }
def FilesOnceSaid : Prop := filesOnceRow.holds Tryd.pinned (OpenSpec.ofChange filesOnceSpec)

/-- ITS FALSE NEIGHBOUR: 'it returns false'. Refute it at one input. -/
def filesOnceWrong : ChangeSpec := { name := "filesOnce", fn := fun _ => fun
  | [d] => { results := [.lit (.bool false)], args := [d] }
  | _ => none }
def FilesOnceWrongFalsely : Prop := filesOnceRow.holds Tryd.pinned (OpenSpec.ofChange filesOnceWrong)

/-- 'winnowerkeep.FilesBack': WHATEVER THE INPUT: true; the input reads as it did. -/
def filesBackSpec : ChangeSpec := { name := "filesBack", fn := fun _ => fun
  | [d1, d2, d3] => { results := [.lit (.bool true)], args := [d1, d2, d3] }
  | _ => none }
def filesBackRow : OpenClaim := { program := "ytalnnghnipoogaadoor", sum := "ca2d9de6bdededec156a4d04ad093efab81b287f6e93986ac3312a5e1a75c9a8", func := "winnower/winnowerkeep.FilesBack", spec := "filesBack", inPlace := ["slices.overlaps[winnower/api.Entry]", "slices.overlaps[int]"], unfollowed := true, recurses := true, named := ["winnower/base.sizes"], apart := false, laid := [("winnower/base.sizes", laid_winnower_base_sizes)] }
def FilesBackSaid : Prop := filesBackRow.holds Tryd.pinned (OpenSpec.ofChange filesBackSpec)

/-- ITS FALSE NEIGHBOUR: 'it returns false'. Refute it at one input. -/
def filesBackWrong : ChangeSpec := { name := "filesBack", fn := fun _ => fun
  | [d1, d2, d3] => { results := [.lit (.bool false)], args := [d1, d2, d3] }
  | _ => none }
def FilesBackWrongFalsely : Prop := filesBackRow.holds Tryd.pinned (OpenSpec.ofChange filesBackWrong)

/- THE SECOND FORM. 'bulk': how many values and letters a reading holds, each counted each time it is reached (what is shared counts as often as it is met; a slice's spare places count too). A statement '..UptoSaid' is the law's where the arguments, and the package variables that the reading takes, are together of bulk at most 1048576: NARROWER than '..Said'. Prove '..Said' where nothing that the law and all that it calls make is longer than what came in: it says more and counts as full. Else prove '..UptoSaid'. A law counts once. -/
mutual
def uptoBulk {H : Type} : DataW H → Nat
  | .lit (.string bytes) => bytes.length + 1
  | .lit _ => 1
  | .nil => 1
  | .ptr d => uptoBulk d + 1
  | .slice elems spare => uptoBulkAll elems + uptoBulkAll spare + 1
  | .agg parts => uptoBulkAll parts + 1
  | .iface _ d => uptoBulk d + 1
  | .map entries => uptoBulkEntries entries + 1
  | .held _ => 1
def uptoBulkAll {H : Type} : List (DataW H) → Nat
  | [] => 0
  | d :: r => uptoBulk d + uptoBulkAll r
def uptoBulkEntries {H : Type} : List (Lit × DataW H) → Nat
  | [] => 0
  | x :: r => uptoBulkEntry x + uptoBulkEntries r
def uptoBulkEntry {H : Type} : Lit × DataW H → Nat
  | (.string bytes, d) => bytes.length + uptoBulk d + 1
  | (_, d) => uptoBulk d + 1
 end
def uptoSmall : (H : Type) → List (DataW H) → Bool := fun _ ds => decide (uptoBulkAll ds ≤ 1048576)
def OpenSpec.upto (s : _root_.Go.ChangeSpec) : _root_.Go.OpenSpec := { _root_.Go.OpenSpec.ofChange s with cond := some uptoSmall }

/-- 'winnowerlaw.BaseAdds', WHERE WHAT IT READS IS OF BULK AT MOST 1048576: true; the input reads as it did. -/
def baseAddsUptoRow : OpenClaim := { program := "ytalnnghnipoogaadoor", sum := "ca2d9de6bdededec156a4d04ad093efab81b287f6e93986ac3312a5e1a75c9a8", func := "winnower/winnowerlaw.BaseAdds", spec := "baseAdds", inPlace := ["slices.overlaps[winnower/api.Entry]", "slices.overlaps[int]"], unfollowed := true, recurses := true, named := ["winnower/base.sizes"], apart := false, laid := [("winnower/base.sizes", laid_winnower_base_sizes)], narrowed := true }
def BaseAddsUptoSaid : Prop := baseAddsUptoRow.holds Tryd.pinned (OpenSpec.upto baseAddsSpec)

/-- 'winnowerkeep.BasesRows', WHERE WHAT IT READS IS OF BULK AT MOST 1048576: true; the input reads as it did. -/
def basesRowsUptoRow : OpenClaim := { program := "ytalnnghnipoogaadoor", sum := "ca2d9de6bdededec156a4d04ad093efab81b287f6e93986ac3312a5e1a75c9a8", func := "winnower/winnowerkeep.BasesRows", spec := "basesRows", inPlace := ["slices.overlaps[winnower/api.Entry]", "slices.overlaps[int]"], unfollowed := true, recurses := true, named := ["winnower/base.sizes"], apart := false, laid := [("winnower/base.sizes", laid_winnower_base_sizes)], narrowed := true }
def BasesRowsUptoSaid : Prop := basesRowsUptoRow.holds Tryd.pinned (OpenSpec.upto basesRowsSpec)

/-- 'winnowerkeep.BasesTotal', WHERE WHAT IT READS IS OF BULK AT MOST 1048576: true; the input reads as it did. -/
def basesTotalUptoRow : OpenClaim := { program := "ytalnnghnipoogaadoor", sum := "ca2d9de6bdededec156a4d04ad093efab81b287f6e93986ac3312a5e1a75c9a8", func := "winnower/winnowerkeep.BasesTotal", spec := "basesTotal", inPlace := ["slices.overlaps[winnower/api.Entry]", "slices.overlaps[int]"], unfollowed := true, recurses := true, named := ["winnower/base.sizes"], apart := false, laid := [("winnower/base.sizes", laid_winnower_base_sizes)], narrowed := true }
def BasesTotalUptoSaid : Prop := basesTotalUptoRow.holds Tryd.pinned (OpenSpec.upto basesTotalSpec)

/-- 'winnowerkeep.BasesAny', WHERE WHAT IT READS IS OF BULK AT MOST 1048576: true; the input reads as it did. -/
def basesAnyUptoRow : OpenClaim := { program := "ytalnnghnipoogaadoor", sum := "ca2d9de6bdededec156a4d04ad093efab81b287f6e93986ac3312a5e1a75c9a8", func := "winnower/winnowerkeep.BasesAny", spec := "basesAny", inPlace := ["slices.overlaps[winnower/api.Entry]", "slices.overlaps[int]"], unfollowed := true, recurses := true, named := ["winnower/base.sizes"], apart := false, laid := [("winnower/base.sizes", laid_winnower_base_sizes)], narrowed := true }
def BasesAnyUptoSaid : Prop := basesAnyUptoRow.holds Tryd.pinned (OpenSpec.upto basesAnySpec)

/-- 'winnowerkeep.BasesBad', WHERE WHAT IT READS IS OF BULK AT MOST 1048576: true; the input reads as it did. -/
def basesBadUptoRow : OpenClaim := { program := "ytalnnghnipoogaadoor", sum := "ca2d9de6bdededec156a4d04ad093efab81b287f6e93986ac3312a5e1a75c9a8", func := "winnower/winnowerkeep.BasesBad", spec := "basesBad", inPlace := ["slices.overlaps[winnower/api.Entry]", "slices.overlaps[int]"], unfollowed := true, recurses := true, named := ["winnower/base.sizes"], apart := false, laid := [("winnower/base.sizes", laid_winnower_base_sizes)], narrowed := true }
def BasesBadUptoSaid : Prop := basesBadUptoRow.holds Tryd.pinned (OpenSpec.upto basesBadSpec)

/-- 'winnowerkeep.BasesExpire', WHERE WHAT IT READS IS OF BULK AT MOST 1048576: true; the input reads as it did. -/
def basesExpireUptoRow : OpenClaim := { program := "ytalnnghnipoogaadoor", sum := "ca2d9de6bdededec156a4d04ad093efab81b287f6e93986ac3312a5e1a75c9a8", func := "winnower/winnowerkeep.BasesExpire", spec := "basesExpire", inPlace := ["slices.overlaps[winnower/api.Entry]", "slices.overlaps[int]"], unfollowed := true, recurses := true, named := ["winnower/base.sizes"], apart := false, laid := [("winnower/base.sizes", laid_winnower_base_sizes)], narrowed := true }
def BasesExpireUptoSaid : Prop := basesExpireUptoRow.holds Tryd.pinned (OpenSpec.upto basesExpireSpec)

/-- 'winnowerkeep.FilesOnce', WHERE WHAT IT READS IS OF BULK AT MOST 1048576: true; the input reads as it did. -/
def filesOnceUptoRow : OpenClaim := { program := "ytalnnghnipoogaadoor", sum := "ca2d9de6bdededec156a4d04ad093efab81b287f6e93986ac3312a5e1a75c9a8", func := "winnower/winnowerkeep.FilesOnce", spec := "filesOnce", inPlace := ["slices.overlaps[winnower/api.Entry]", "slices.overlaps[int]"], unfollowed := true, recurses := true, named := ["winnower/base.sizes"], apart := false, laid := [("winnower/base.sizes", laid_winnower_base_sizes)], narrowed := true }
def FilesOnceUptoSaid : Prop := filesOnceUptoRow.holds Tryd.pinned (OpenSpec.upto filesOnceSpec)

/-- 'winnowerkeep.FilesBack', WHERE WHAT IT READS IS OF BULK AT MOST 1048576: true; the input reads as it did. -/
def filesBackUptoRow : OpenClaim := { program := "ytalnnghnipoogaadoor", sum := "ca2d9de6bdededec156a4d04ad093efab81b287f6e93986ac3312a5e1a75c9a8", func := "winnower/winnowerkeep.FilesBack", spec := "filesBack", inPlace := ["slices.overlaps[winnower/api.Entry]", "slices.overlaps[int]"], unfollowed := true, recurses := true, named := ["winnower/base.sizes"], apart := false, laid := [("winnower/base.sizes", laid_winnower_base_sizes)], narrowed := true }
def FilesBackUptoSaid : Prop := filesBackUptoRow.holds Tryd.pinned (OpenSpec.upto filesBackSpec)

end Rows
end Go.Proofs.YtalnnghnipoogaaDoor
