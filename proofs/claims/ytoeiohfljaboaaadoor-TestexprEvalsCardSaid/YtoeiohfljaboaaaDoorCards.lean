/-
  DERIVED. GIVEN WITH THE SEED: THE CARDS: each row of YtoeiohfljaboaaaDoorRows.lean that lists a variable, with what it lists TIED to the program's text (the seventh form; the later family's looks); each row that meets fmt, with fmt's text TOLD by the authors' own Lean function (tested against real Go, not proved from fmt's source: count such statements apart). THE CARD IS WHAT COUNTS. Prove the row's statement (the work); the ties are given (YtoeiohfljaboaaaDoorTie.lean); close each card by the builder's one call (the guide's Derived/Test/ToyasCard.lean, 'card_holds'). Laid BY PROGRAM, IN A SANDBOX (cutbox-door.mjs). By AI agents, Wed Nov 11 2026. No macro, syntax, notation, axiom, sorry.
-/
import Derived.Test.YtoeiohfljaboaaaDoorRows
import GoSem.ClaimSeven
namespace Go.Proofs.YtoeiohfljaboaaaDoor
namespace Rows

/-- THE TIED CARD OF 'jobshelllaw29.TestexprEvals'. -/
def testexprEvalsCard : Claim7 := { stood := { row := testexprEvalsRow, standIns := [], harness := (true, "aacb5983c18f5337dcd45483c6c156b2b676d1e2300df527b101564bf02ef163"), looks := false }, kinds := [], alts := [], laidByText := true, laidKinds := [.data, .pinned], laidTests := true, laidLooks := .later }
def TestexprEvalsCardSaid : Prop := Claim7.holds Tryd.pinned (.plain (OpenSpec.ofChange testexprEvalsSpec)) testexprEvalsCard

/-- THE TIED CARD OF 'jobshelllaw29.TestexprNegates'. -/
def testexprNegatesCard : Claim7 := { stood := { row := testexprNegatesRow, standIns := [], harness := (true, "aacb5983c18f5337dcd45483c6c156b2b676d1e2300df527b101564bf02ef163"), looks := false }, kinds := [], alts := [], laidByText := true, laidKinds := [.data, .pinned], laidTests := true, laidLooks := .later }
def TestexprNegatesCardSaid : Prop := Claim7.holds Tryd.pinned (.plain (OpenSpec.ofChange testexprNegatesSpec)) testexprNegatesCard

/-- THE TIED CARD OF 'jobshelllaw29.TestexprOpposites'. -/
def testexprOppositesCard : Claim7 := { stood := { row := testexprOppositesRow, standIns := [], harness := (true, "aacb5983c18f5337dcd45483c6c156b2b676d1e2300df527b101564bf02ef163"), looks := false }, kinds := [], alts := [], laidByText := true, laidKinds := [.data, .pinned], laidTests := true, laidLooks := .later }
def TestexprOppositesCardSaid : Prop := Claim7.holds Tryd.pinned (.plain (OpenSpec.ofChange testexprOppositesSpec)) testexprOppositesCard

/-- THE TIED CARD OF 'jobshelllaw29.TestexprNumbers'. -/
def testexprNumbersCard : Claim7 := { stood := { row := testexprNumbersRow, standIns := [], harness := (true, "aacb5983c18f5337dcd45483c6c156b2b676d1e2300df527b101564bf02ef163"), looks := false }, kinds := [], alts := [], laidByText := true, laidKinds := [.data, .pinned], laidTests := true, laidLooks := .later }
def TestexprNumbersCardSaid : Prop := Claim7.holds Tryd.pinned (.plain (OpenSpec.ofChange testexprNumbersSpec)) testexprNumbersCard

/-- THE TIED CARD OF 'jobshelllaw29.TestexprFiles'. -/
def testexprFilesCard : Claim7 := { stood := { row := testexprFilesRow, standIns := [], harness := (true, "aacb5983c18f5337dcd45483c6c156b2b676d1e2300df527b101564bf02ef163"), looks := false }, kinds := [], alts := [], laidByText := true, laidKinds := [.data, .pinned], laidTests := true, laidLooks := .later }
def TestexprFilesCardSaid : Prop := Claim7.holds Tryd.pinned (.plain (OpenSpec.ofChange testexprFilesSpec)) testexprFilesCard

/-- THE SECOND FORM's CARD OF 'jobshelllaw29.TestexprEvals'. -/
def testexprEvalsUptoCard : Claim7 := { stood := { row := testexprEvalsUptoRow, standIns := [], harness := (true, "aacb5983c18f5337dcd45483c6c156b2b676d1e2300df527b101564bf02ef163"), looks := false }, kinds := [], alts := [], laidByText := true, laidKinds := [.data, .pinned], laidTests := true, laidLooks := .later }
def TestexprEvalsUptoCardSaid : Prop := Claim7.holds Tryd.pinned (.plain (OpenSpec.upto testexprEvalsSpec)) testexprEvalsUptoCard

/-- THE SECOND FORM's CARD OF 'jobshelllaw29.TestexprNegates'. -/
def testexprNegatesUptoCard : Claim7 := { stood := { row := testexprNegatesUptoRow, standIns := [], harness := (true, "aacb5983c18f5337dcd45483c6c156b2b676d1e2300df527b101564bf02ef163"), looks := false }, kinds := [], alts := [], laidByText := true, laidKinds := [.data, .pinned], laidTests := true, laidLooks := .later }
def TestexprNegatesUptoCardSaid : Prop := Claim7.holds Tryd.pinned (.plain (OpenSpec.upto testexprNegatesSpec)) testexprNegatesUptoCard

/-- THE SECOND FORM's CARD OF 'jobshelllaw29.TestexprOpposites'. -/
def testexprOppositesUptoCard : Claim7 := { stood := { row := testexprOppositesUptoRow, standIns := [], harness := (true, "aacb5983c18f5337dcd45483c6c156b2b676d1e2300df527b101564bf02ef163"), looks := false }, kinds := [], alts := [], laidByText := true, laidKinds := [.data, .pinned], laidTests := true, laidLooks := .later }
def TestexprOppositesUptoCardSaid : Prop := Claim7.holds Tryd.pinned (.plain (OpenSpec.upto testexprOppositesSpec)) testexprOppositesUptoCard

/-- THE SECOND FORM's CARD OF 'jobshelllaw29.TestexprNumbers'. -/
def testexprNumbersUptoCard : Claim7 := { stood := { row := testexprNumbersUptoRow, standIns := [], harness := (true, "aacb5983c18f5337dcd45483c6c156b2b676d1e2300df527b101564bf02ef163"), looks := false }, kinds := [], alts := [], laidByText := true, laidKinds := [.data, .pinned], laidTests := true, laidLooks := .later }
def TestexprNumbersUptoCardSaid : Prop := Claim7.holds Tryd.pinned (.plain (OpenSpec.upto testexprNumbersSpec)) testexprNumbersUptoCard

/-- THE SECOND FORM's CARD OF 'jobshelllaw29.TestexprFiles'. -/
def testexprFilesUptoCard : Claim7 := { stood := { row := testexprFilesUptoRow, standIns := [], harness := (true, "aacb5983c18f5337dcd45483c6c156b2b676d1e2300df527b101564bf02ef163"), looks := false }, kinds := [], alts := [], laidByText := true, laidKinds := [.data, .pinned], laidTests := true, laidLooks := .later }
def TestexprFilesUptoCardSaid : Prop := Claim7.holds Tryd.pinned (.plain (OpenSpec.upto testexprFilesSpec)) testexprFilesUptoCard
end Rows
end Go.Proofs.YtoeiohfljaboaaaDoor
