/-
  NARROWER THAN 'FOR EVERY INPUT', by the rows' own cells (each row's printed sentence says how): TestexprEvals: laid · TestexprNegates: laid · TestexprOpposites: laid · TestexprNumbers: laid · TestexprFiles: laid.
  DERIVED. THE GIVEN ROWS OF THIS SEAT. 5 by the template 'for every input the law returns true; each argument reads behind the call as it read before'; 0 by the template 'total and deterministic' (their statements: YtoeiohfljaboaaaDoorTotals.lean).
  GIVEN WITH THE SEED: the statements are not yours to turn. If you find one false, say at which input.
  Laid BY PROGRAM, IN A SANDBOX (cutbox-rows.mjs): the forced cells as the released guide's own fill.sh prints them over the translation 55eb3586ff3d7d64… (all of the seat's roots in one cut). By AI agents, Wed Nov 11 2026. No macro, syntax, notation, axiom, sorry.
-/
import Derived.Test.YtoeiohfljaboaaaDoorChecked
import GoSem.PinnedTables
import GoSem.Claim
import GoSem.ClaimJoined
import GoSem.ClaimMapViews
import Derived.JoinedTies
import Derived.KernelRfl
namespace Go.Proofs.YtoeiohfljaboaaaDoor
/- THE CELL 'sum', in the pinned program and in every row, IS THE sha256 OF THE DUMP (.gsa) THAT YtoeiohfljaboaaaDoorProg.lean LOADS. Nothing in Lean hashes anything: it is a label: what it is worth is what the hold of that sum in a sandbox is worth. -/
noncomputable def Tryd.pinned : Pinned := { name := "ytoeiohfljaboaaadoor", sum := "55eb3586ff3d7d6452da7e0f25e306f9fabaf0dafa6ecf2e445a0a83fc065c27", checked := Tryd.checked }
namespace Rows
def none {H : Type} : Left H := { results := [], args := [] }

/- WHAT THE LISTED PACKAGE-LEVEL VARIABLES READ AS WHEN THE CALL BEGINS. Each datum BY PROGRAM (the guide's laid-datum.mjs) off the statement by which the dump's own 'gosem.cut.vars' lays the variable. In a bare row this is a premise. The card (YtoeiohfljaboaaaDoorCards.lean) ties it to the program's text. -/
def laid_unicode_utf8_acceptRanges {H : Type} : DataW H := .agg [.agg [.lit (.int .u8 128), .lit (.int .u8 191)], .agg [.lit (.int .u8 160), .lit (.int .u8 191)], .agg [.lit (.int .u8 128), .lit (.int .u8 159)], .agg [.lit (.int .u8 144), .lit (.int .u8 191)], .agg [.lit (.int .u8 128), .lit (.int .u8 143)], .agg [.lit (.int .u8 0), .lit (.int .u8 0)], .agg [.lit (.int .u8 0), .lit (.int .u8 0)], .agg [.lit (.int .u8 0), .lit (.int .u8 0)], .agg [.lit (.int .u8 0), .lit (.int .u8 0)], .agg [.lit (.int .u8 0), .lit (.int .u8 0)], .agg [.lit (.int .u8 0), .lit (.int .u8 0)], .agg [.lit (.int .u8 0), .lit (.int .u8 0)], .agg [.lit (.int .u8 0), .lit (.int .u8 0)], .agg [.lit (.int .u8 0), .lit (.int .u8 0)], .agg [.lit (.int .u8 0), .lit (.int .u8 0)], .agg [.lit (.int .u8 0), .lit (.int .u8 0)]]
/-- One of Go's own tables, pinned by name: the form's constant. -/
def laid_unicode_utf8_first : DataW Unit := Go.Pinned.utf8First

/-- 'jobshelllaw29.TestexprEvals': WHATEVER THE INPUT: true; the input reads as it did. -/
def testexprEvalsSpec : ChangeSpec := { name := "testexprEvals", fn := fun _ => fun
  | [d1, d2, d3] => { results := [.lit (.bool true)], args := [d1, d2, d3] }
  | _ => none }
def testexprEvalsRow : OpenClaim := { program := "ytoeiohfljaboaaadoor", sum := "55eb3586ff3d7d6452da7e0f25e306f9fabaf0dafa6ecf2e445a0a83fc065c27", func := "jobshell/jobshelllaw29.TestexprEvals", spec := "testexprEvals", inPlace := ["internal/bytealg.CountString", "internal/bytealg.IndexByteString", "internal/bytealg.IndexString"], unfollowed := true, recurses := true, named := ["unicode/utf8.first", "unicode/utf8.acceptRanges", "internal/bytealg.MaxLen"], apart := false, laid := [("unicode/utf8.acceptRanges", laid_unicode_utf8_acceptRanges), ("unicode/utf8.first", laid_unicode_utf8_first)] }
def TestexprEvalsSaid : Prop := testexprEvalsRow.holds Tryd.pinned (OpenSpec.ofChange testexprEvalsSpec)

/-- ITS FALSE NEIGHBOUR: 'it returns false'. Refute it at one input. -/
def testexprEvalsWrong : ChangeSpec := { name := "testexprEvals", fn := fun _ => fun
  | [d1, d2, d3] => { results := [.lit (.bool false)], args := [d1, d2, d3] }
  | _ => none }
def TestexprEvalsWrongFalsely : Prop := testexprEvalsRow.holds Tryd.pinned (OpenSpec.ofChange testexprEvalsWrong)

/-- 'jobshelllaw29.TestexprNegates': WHATEVER THE INPUT: true; the input reads as it did. -/
def testexprNegatesSpec : ChangeSpec := { name := "testexprNegates", fn := fun _ => fun
  | [d1, d2] => { results := [.lit (.bool true)], args := [d1, d2] }
  | _ => none }
def testexprNegatesRow : OpenClaim := { program := "ytoeiohfljaboaaadoor", sum := "55eb3586ff3d7d6452da7e0f25e306f9fabaf0dafa6ecf2e445a0a83fc065c27", func := "jobshell/jobshelllaw29.TestexprNegates", spec := "testexprNegates", inPlace := ["internal/bytealg.CountString", "internal/bytealg.IndexByteString", "internal/bytealg.IndexString"], unfollowed := true, recurses := true, named := ["unicode/utf8.first", "unicode/utf8.acceptRanges", "internal/bytealg.MaxLen"], apart := false, laid := [("unicode/utf8.acceptRanges", laid_unicode_utf8_acceptRanges), ("unicode/utf8.first", laid_unicode_utf8_first)] }
def TestexprNegatesSaid : Prop := testexprNegatesRow.holds Tryd.pinned (OpenSpec.ofChange testexprNegatesSpec)

/-- ITS FALSE NEIGHBOUR: 'it returns false'. Refute it at one input. -/
def testexprNegatesWrong : ChangeSpec := { name := "testexprNegates", fn := fun _ => fun
  | [d1, d2] => { results := [.lit (.bool false)], args := [d1, d2] }
  | _ => none }
def TestexprNegatesWrongFalsely : Prop := testexprNegatesRow.holds Tryd.pinned (OpenSpec.ofChange testexprNegatesWrong)

/-- 'jobshelllaw29.TestexprOpposites': WHATEVER THE INPUT: true; the input reads as it did. -/
def testexprOppositesSpec : ChangeSpec := { name := "testexprOpposites", fn := fun _ => fun
  | [d1, d2] => { results := [.lit (.bool true)], args := [d1, d2] }
  | _ => none }
def testexprOppositesRow : OpenClaim := { program := "ytoeiohfljaboaaadoor", sum := "55eb3586ff3d7d6452da7e0f25e306f9fabaf0dafa6ecf2e445a0a83fc065c27", func := "jobshell/jobshelllaw29.TestexprOpposites", spec := "testexprOpposites", inPlace := ["internal/bytealg.CountString", "internal/bytealg.IndexByteString", "internal/bytealg.IndexString"], unfollowed := true, recurses := true, named := ["unicode/utf8.first", "unicode/utf8.acceptRanges", "internal/bytealg.MaxLen"], apart := false, laid := [("unicode/utf8.acceptRanges", laid_unicode_utf8_acceptRanges), ("unicode/utf8.first", laid_unicode_utf8_first)] }
def TestexprOppositesSaid : Prop := testexprOppositesRow.holds Tryd.pinned (OpenSpec.ofChange testexprOppositesSpec)

/-- ITS FALSE NEIGHBOUR: 'it returns false'. Refute it at one input. -/
def testexprOppositesWrong : ChangeSpec := { name := "testexprOpposites", fn := fun _ => fun
  | [d1, d2] => { results := [.lit (.bool false)], args := [d1, d2] }
  | _ => none }
def TestexprOppositesWrongFalsely : Prop := testexprOppositesRow.holds Tryd.pinned (OpenSpec.ofChange testexprOppositesWrong)

/-- 'jobshelllaw29.TestexprNumbers': WHATEVER THE INPUT: true; the input reads as it did. -/
def testexprNumbersSpec : ChangeSpec := { name := "testexprNumbers", fn := fun _ => fun
  | [d1, d2, d3] => { results := [.lit (.bool true)], args := [d1, d2, d3] }
  | _ => none }
def testexprNumbersRow : OpenClaim := { program := "ytoeiohfljaboaaadoor", sum := "55eb3586ff3d7d6452da7e0f25e306f9fabaf0dafa6ecf2e445a0a83fc065c27", func := "jobshell/jobshelllaw29.TestexprNumbers", spec := "testexprNumbers", inPlace := ["internal/bytealg.CountString", "internal/bytealg.IndexByteString", "internal/bytealg.IndexString"], unfollowed := true, recurses := true, named := ["unicode/utf8.first", "unicode/utf8.acceptRanges", "internal/bytealg.MaxLen"], apart := false, laid := [("unicode/utf8.acceptRanges", laid_unicode_utf8_acceptRanges), ("unicode/utf8.first", laid_unicode_utf8_first)] }
def TestexprNumbersSaid : Prop := testexprNumbersRow.holds Tryd.pinned (OpenSpec.ofChange testexprNumbersSpec)

/-- ITS FALSE NEIGHBOUR: 'it returns false'. Refute it at one input. -/
def testexprNumbersWrong : ChangeSpec := { name := "testexprNumbers", fn := fun _ => fun
  | [d1, d2, d3] => { results := [.lit (.bool false)], args := [d1, d2, d3] }
  | _ => none }
def TestexprNumbersWrongFalsely : Prop := testexprNumbersRow.holds Tryd.pinned (OpenSpec.ofChange testexprNumbersWrong)

/-- 'jobshelllaw29.TestexprFiles': WHATEVER THE INPUT: true; the input reads as it did. -/
def testexprFilesSpec : ChangeSpec := { name := "testexprFiles", fn := fun _ => fun
  | [d1, d2, d3] => { results := [.lit (.bool true)], args := [d1, d2, d3] }
  | _ => none }
def testexprFilesRow : OpenClaim := { program := "ytoeiohfljaboaaadoor", sum := "55eb3586ff3d7d6452da7e0f25e306f9fabaf0dafa6ecf2e445a0a83fc065c27", func := "jobshell/jobshelllaw29.TestexprFiles", spec := "testexprFiles", inPlace := ["internal/bytealg.CountString", "internal/bytealg.IndexByteString", "internal/bytealg.IndexString"], unfollowed := true, recurses := true, named := ["unicode/utf8.first", "unicode/utf8.acceptRanges", "internal/bytealg.MaxLen"], apart := false, laid := [("unicode/utf8.acceptRanges", laid_unicode_utf8_acceptRanges), ("unicode/utf8.first", laid_unicode_utf8_first)] }
def TestexprFilesSaid : Prop := testexprFilesRow.holds Tryd.pinned (OpenSpec.ofChange testexprFilesSpec)

/-- ITS FALSE NEIGHBOUR: 'it returns false'. Refute it at one input. -/
def testexprFilesWrong : ChangeSpec := { name := "testexprFiles", fn := fun _ => fun
  | [d1, d2, d3] => { results := [.lit (.bool false)], args := [d1, d2, d3] }
  | _ => none }
def TestexprFilesWrongFalsely : Prop := testexprFilesRow.holds Tryd.pinned (OpenSpec.ofChange testexprFilesWrong)

/- THE SECOND FORM. 'bulk': how many values and letters a reading holds, each counted each time it is reached (what is shared counts as often as it is met; a slice's spare places count too). A statement '..UptoSaid' is the law's where the arguments, and the package variables that the reading takes, are together of bulk at most 1048576: NARROWER than '..Said'. Prove '..Said' where nothing that the law and all that it calls make is longer than what came in: it says more and counts as full. Else prove '..UptoSaid'. A law counts once. -/
mutual
def uptoBulk {H : Type} : DataW H → Nat
  | .lit (.string bytes) => bytes.length + 1
  | .lit _ => 1
  | .nil => 1
  | .ptr d => uptoBulk d + 1
  | .slice elems spare => uptoBulkAll elems + uptoBulkAll spare + 1
  | .agg parts => uptoBulkAll parts + 1
  | .iface _ d => uptoBulk d + 1
  | .map entries => uptoBulkEntries entries + 1
  | .held _ => 1
def uptoBulkAll {H : Type} : List (DataW H) → Nat
  | [] => 0
  | d :: r => uptoBulk d + uptoBulkAll r
def uptoBulkEntries {H : Type} : List (Lit × DataW H) → Nat
  | [] => 0
  | x :: r => uptoBulkEntry x + uptoBulkEntries r
def uptoBulkEntry {H : Type} : Lit × DataW H → Nat
  | (.string bytes, d) => bytes.length + uptoBulk d + 1
  | (_, d) => uptoBulk d + 1
 end
def uptoSmall : (H : Type) → List (DataW H) → Bool := fun _ ds => decide (uptoBulkAll ds ≤ 1048576)
def OpenSpec.upto (s : _root_.Go.ChangeSpec) : _root_.Go.OpenSpec := { _root_.Go.OpenSpec.ofChange s with cond := some uptoSmall }

/-- 'jobshelllaw29.TestexprEvals', WHERE WHAT IT READS IS OF BULK AT MOST 1048576: true; the input reads as it did. -/
def testexprEvalsUptoRow : OpenClaim := { program := "ytoeiohfljaboaaadoor", sum := "55eb3586ff3d7d6452da7e0f25e306f9fabaf0dafa6ecf2e445a0a83fc065c27", func := "jobshell/jobshelllaw29.TestexprEvals", spec := "testexprEvals", inPlace := ["internal/bytealg.CountString", "internal/bytealg.IndexByteString", "internal/bytealg.IndexString"], unfollowed := true, recurses := true, named := ["unicode/utf8.first", "unicode/utf8.acceptRanges", "internal/bytealg.MaxLen"], apart := false, laid := [("unicode/utf8.acceptRanges", laid_unicode_utf8_acceptRanges), ("unicode/utf8.first", laid_unicode_utf8_first)], narrowed := true }
def TestexprEvalsUptoSaid : Prop := testexprEvalsUptoRow.holds Tryd.pinned (OpenSpec.upto testexprEvalsSpec)

/-- 'jobshelllaw29.TestexprNegates', WHERE WHAT IT READS IS OF BULK AT MOST 1048576: true; the input reads as it did. -/
def testexprNegatesUptoRow : OpenClaim := { program := "ytoeiohfljaboaaadoor", sum := "55eb3586ff3d7d6452da7e0f25e306f9fabaf0dafa6ecf2e445a0a83fc065c27", func := "jobshell/jobshelllaw29.TestexprNegates", spec := "testexprNegates", inPlace := ["internal/bytealg.CountString", "internal/bytealg.IndexByteString", "internal/bytealg.IndexString"], unfollowed := true, recurses := true, named := ["unicode/utf8.first", "unicode/utf8.acceptRanges", "internal/bytealg.MaxLen"], apart := false, laid := [("unicode/utf8.acceptRanges", laid_unicode_utf8_acceptRanges), ("unicode/utf8.first", laid_unicode_utf8_first)], narrowed := true }
def TestexprNegatesUptoSaid : Prop := testexprNegatesUptoRow.holds Tryd.pinned (OpenSpec.upto testexprNegatesSpec)

/-- 'jobshelllaw29.TestexprOpposites', WHERE WHAT IT READS IS OF BULK AT MOST 1048576: true; the input reads as it did. -/
def testexprOppositesUptoRow : OpenClaim := { program := "ytoeiohfljaboaaadoor", sum := "55eb3586ff3d7d6452da7e0f25e306f9fabaf0dafa6ecf2e445a0a83fc065c27", func := "jobshell/jobshelllaw29.TestexprOpposites", spec := "testexprOpposites", inPlace := ["internal/bytealg.CountString", "internal/bytealg.IndexByteString", "internal/bytealg.IndexString"], unfollowed := true, recurses := true, named := ["unicode/utf8.first", "unicode/utf8.acceptRanges", "internal/bytealg.MaxLen"], apart := false, laid := [("unicode/utf8.acceptRanges", laid_unicode_utf8_acceptRanges), ("unicode/utf8.first", laid_unicode_utf8_first)], narrowed := true }
def TestexprOppositesUptoSaid : Prop := testexprOppositesUptoRow.holds Tryd.pinned (OpenSpec.upto testexprOppositesSpec)

/-- 'jobshelllaw29.TestexprNumbers', WHERE WHAT IT READS IS OF BULK AT MOST 1048576: true; the input reads as it did. -/
def testexprNumbersUptoRow : OpenClaim := { program := "ytoeiohfljaboaaadoor", sum := "55eb3586ff3d7d6452da7e0f25e306f9fabaf0dafa6ecf2e445a0a83fc065c27", func := "jobshell/jobshelllaw29.TestexprNumbers", spec := "testexprNumbers", inPlace := ["internal/bytealg.CountString", "internal/bytealg.IndexByteString", "internal/bytealg.IndexString"], unfollowed := true, recurses := true, named := ["unicode/utf8.first", "unicode/utf8.acceptRanges", "internal/bytealg.MaxLen"], apart := false, laid := [("unicode/utf8.acceptRanges", laid_unicode_utf8_acceptRanges), ("unicode/utf8.first", laid_unicode_utf8_first)], narrowed := true }
def TestexprNumbersUptoSaid : Prop := testexprNumbersUptoRow.holds Tryd.pinned (OpenSpec.upto testexprNumbersSpec)

/-- 'jobshelllaw29.TestexprFiles', WHERE WHAT IT READS IS OF BULK AT MOST 1048576: true; the input reads as it did. -/
def testexprFilesUptoRow : OpenClaim := { program := "ytoeiohfljaboaaadoor", sum := "55eb3586ff3d7d6452da7e0f25e306f9fabaf0dafa6ecf2e445a0a83fc065c27", func := "jobshell/jobshelllaw29.TestexprFiles", spec := "testexprFiles", inPlace := ["internal/bytealg.CountString", "internal/bytealg.IndexByteString", "internal/bytealg.IndexString"], unfollowed := true, recurses := true, named := ["unicode/utf8.first", "unicode/utf8.acceptRanges", "internal/bytealg.MaxLen"], apart := false, laid := [("unicode/utf8.acceptRanges", laid_unicode_utf8_acceptRanges), ("unicode/utf8.first", laid_unicode_utf8_first)], narrowed := true }
def TestexprFilesUptoSaid : Prop := testexprFilesUptoRow.holds Tryd.pinned (OpenSpec.upto testexprFilesSpec)

end Rows
end Go.Proofs.YtoeiohfljaboaaaDoor
