/-
  DERIVED. GIVEN WITH THE SEED: THE CARDS: each row of YtimpdfafodaadaaDoorRows.lean that lists a variable, with what it lists TIED to the program's text (the seventh form; the later family's looks); each row that meets fmt, with fmt's text TOLD by the authors' own Lean function (tested against real Go, not proved from fmt's source: count such statements apart). THE CARD IS WHAT COUNTS. Prove the row's statement (the work); the ties are given (YtimpdfafodaadaaDoorTie.lean); close each card by the builder's one call (the guide's Derived/Test/ToyasCard.lean, 'card_holds'). Laid BY PROGRAM, IN A SANDBOX (cutbox-door.mjs). By AI agents, Wed Nov 11 2026. No macro, syntax, notation, axiom, sorry.
-/
import Derived.Test.YtimpdfafodaadaaDoorRows
import GoSem.ClaimSeven
namespace Go.Proofs.YtimpdfafodaadaaDoor
namespace Rows

/-- THE TIED CARD OF 'invigilatorlaw06.ArraysReads'. -/
def arraysReadsCard : Claim7 := { stood := { row := arraysReadsRow, standIns := [], harness := (true, "321cb13078c86a90322111e2701fb45abb06e137cadc516b6695921f7d1ce5f9"), looks := false }, kinds := [], alts := [], laidByText := true, laidKinds := [.data, .pinned], laidTests := true, laidLooks := .later }
def ArraysReadsCardSaid : Prop := Claim7.holds Tryd.pinned (.plain (OpenSpec.ofChange arraysReadsSpec)) arraysReadsCard

/-- THE TIED CARD OF 'invigilatorlaw06.ArraysMakes'. -/
def arraysMakesCard : Claim7 := { stood := { row := arraysMakesRow, standIns := [], harness := (true, "321cb13078c86a90322111e2701fb45abb06e137cadc516b6695921f7d1ce5f9"), looks := false }, kinds := [], alts := [], laidByText := true, laidKinds := [.data, .pinned], laidTests := true, laidLooks := .later }
def ArraysMakesCardSaid : Prop := Claim7.holds Tryd.pinned (.plain (OpenSpec.ofChange arraysMakesSpec)) arraysMakesCard

/-- THE TIED CARD OF 'invigilatorlaw06.ArraysCells'. -/
def arraysCellsCard : Claim7 := { stood := { row := arraysCellsRow, standIns := [], harness := (true, "321cb13078c86a90322111e2701fb45abb06e137cadc516b6695921f7d1ce5f9"), looks := false }, kinds := [], alts := [], laidByText := true, laidKinds := [.data, .pinned], laidTests := true, laidLooks := .later }
def ArraysCellsCardSaid : Prop := Claim7.holds Tryd.pinned (.plain (OpenSpec.ofChange arraysCellsSpec)) arraysCellsCard

/-- THE TIED CARD OF 'invigilatorlaw06.ArraysBack'. -/
def arraysBackCard : Claim7 := { stood := { row := arraysBackRow, standIns := [], harness := (true, "321cb13078c86a90322111e2701fb45abb06e137cadc516b6695921f7d1ce5f9"), looks := false }, kinds := [], alts := [], laidByText := true, laidKinds := [.data, .pinned], laidTests := true, laidLooks := .later }
def ArraysBackCardSaid : Prop := Claim7.holds Tryd.pinned (.plain (OpenSpec.ofChange arraysBackSpec)) arraysBackCard

/-- THE TIED CARD OF 'invigilatorlaw06.ArraysKnown'. -/
def arraysKnownCard : Claim7 := { stood := { row := arraysKnownRow, standIns := [], harness := (true, "321cb13078c86a90322111e2701fb45abb06e137cadc516b6695921f7d1ce5f9"), looks := false }, kinds := [], alts := [], laidByText := true, laidKinds := [.data, .pinned], laidTests := true, laidLooks := .later }
def ArraysKnownCardSaid : Prop := Claim7.holds Tryd.pinned (.plain (OpenSpec.ofChange arraysKnownSpec)) arraysKnownCard

/-- THE TIED CARD OF 'invigilatorlaw06.ArraysOrders'. -/
def arraysOrdersCard : Claim7 := { stood := { row := arraysOrdersRow, standIns := [], harness := (true, "321cb13078c86a90322111e2701fb45abb06e137cadc516b6695921f7d1ce5f9"), looks := false }, kinds := [], alts := [], laidByText := true, laidKinds := [.data, .pinned], laidTests := true, laidLooks := .later }
def ArraysOrdersCardSaid : Prop := Claim7.holds Tryd.pinned (.plain (OpenSpec.ofChange arraysOrdersSpec)) arraysOrdersCard

/-- THE TIED CARD OF 'invigilatorlaw06.ArraysCompare'. -/
def arraysCompareCard : Claim7 := { stood := { row := arraysCompareRow, standIns := [], harness := (true, "321cb13078c86a90322111e2701fb45abb06e137cadc516b6695921f7d1ce5f9"), looks := false }, kinds := [], alts := [], laidByText := true, laidKinds := [.data, .pinned], laidTests := true, laidLooks := .later }
def ArraysCompareCardSaid : Prop := Claim7.holds Tryd.pinned (.plain (OpenSpec.ofChange arraysCompareSpec)) arraysCompareCard

/-- THE TIED CARD OF 'invigilatorlaw06.ArraysChecks'. -/
def arraysChecksCard : Claim7 := { stood := { row := arraysChecksRow, standIns := [], harness := (true, "321cb13078c86a90322111e2701fb45abb06e137cadc516b6695921f7d1ce5f9"), looks := false }, kinds := [], alts := [], laidByText := true, laidKinds := [.data, .pinned], laidTests := true, laidLooks := .later }
def ArraysChecksCardSaid : Prop := Claim7.holds Tryd.pinned (.plain (OpenSpec.ofChange arraysChecksSpec)) arraysChecksCard

/-- THE SECOND FORM's CARD OF 'invigilatorlaw06.ArraysReads'. -/
def arraysReadsUptoCard : Claim7 := { stood := { row := arraysReadsUptoRow, standIns := [], harness := (true, "321cb13078c86a90322111e2701fb45abb06e137cadc516b6695921f7d1ce5f9"), looks := false }, kinds := [], alts := [], laidByText := true, laidKinds := [.data, .pinned], laidTests := true, laidLooks := .later }
def ArraysReadsUptoCardSaid : Prop := Claim7.holds Tryd.pinned (.plain (OpenSpec.upto arraysReadsSpec)) arraysReadsUptoCard

/-- THE SECOND FORM's CARD OF 'invigilatorlaw06.ArraysMakes'. -/
def arraysMakesUptoCard : Claim7 := { stood := { row := arraysMakesUptoRow, standIns := [], harness := (true, "321cb13078c86a90322111e2701fb45abb06e137cadc516b6695921f7d1ce5f9"), looks := false }, kinds := [], alts := [], laidByText := true, laidKinds := [.data, .pinned], laidTests := true, laidLooks := .later }
def ArraysMakesUptoCardSaid : Prop := Claim7.holds Tryd.pinned (.plain (OpenSpec.upto arraysMakesSpec)) arraysMakesUptoCard

/-- THE SECOND FORM's CARD OF 'invigilatorlaw06.ArraysCells'. -/
def arraysCellsUptoCard : Claim7 := { stood := { row := arraysCellsUptoRow, standIns := [], harness := (true, "321cb13078c86a90322111e2701fb45abb06e137cadc516b6695921f7d1ce5f9"), looks := false }, kinds := [], alts := [], laidByText := true, laidKinds := [.data, .pinned], laidTests := true, laidLooks := .later }
def ArraysCellsUptoCardSaid : Prop := Claim7.holds Tryd.pinned (.plain (OpenSpec.upto arraysCellsSpec)) arraysCellsUptoCard

/-- THE SECOND FORM's CARD OF 'invigilatorlaw06.ArraysBack'. -/
def arraysBackUptoCard : Claim7 := { stood := { row := arraysBackUptoRow, standIns := [], harness := (true, "321cb13078c86a90322111e2701fb45abb06e137cadc516b6695921f7d1ce5f9"), looks := false }, kinds := [], alts := [], laidByText := true, laidKinds := [.data, .pinned], laidTests := true, laidLooks := .later }
def ArraysBackUptoCardSaid : Prop := Claim7.holds Tryd.pinned (.plain (OpenSpec.upto arraysBackSpec)) arraysBackUptoCard

/-- THE SECOND FORM's CARD OF 'invigilatorlaw06.ArraysKnown'. -/
def arraysKnownUptoCard : Claim7 := { stood := { row := arraysKnownUptoRow, standIns := [], harness := (true, "321cb13078c86a90322111e2701fb45abb06e137cadc516b6695921f7d1ce5f9"), looks := false }, kinds := [], alts := [], laidByText := true, laidKinds := [.data, .pinned], laidTests := true, laidLooks := .later }
def ArraysKnownUptoCardSaid : Prop := Claim7.holds Tryd.pinned (.plain (OpenSpec.upto arraysKnownSpec)) arraysKnownUptoCard

/-- THE SECOND FORM's CARD OF 'invigilatorlaw06.ArraysOrders'. -/
def arraysOrdersUptoCard : Claim7 := { stood := { row := arraysOrdersUptoRow, standIns := [], harness := (true, "321cb13078c86a90322111e2701fb45abb06e137cadc516b6695921f7d1ce5f9"), looks := false }, kinds := [], alts := [], laidByText := true, laidKinds := [.data, .pinned], laidTests := true, laidLooks := .later }
def ArraysOrdersUptoCardSaid : Prop := Claim7.holds Tryd.pinned (.plain (OpenSpec.upto arraysOrdersSpec)) arraysOrdersUptoCard

/-- THE SECOND FORM's CARD OF 'invigilatorlaw06.ArraysCompare'. -/
def arraysCompareUptoCard : Claim7 := { stood := { row := arraysCompareUptoRow, standIns := [], harness := (true, "321cb13078c86a90322111e2701fb45abb06e137cadc516b6695921f7d1ce5f9"), looks := false }, kinds := [], alts := [], laidByText := true, laidKinds := [.data, .pinned], laidTests := true, laidLooks := .later }
def ArraysCompareUptoCardSaid : Prop := Claim7.holds Tryd.pinned (.plain (OpenSpec.upto arraysCompareSpec)) arraysCompareUptoCard

/-- THE SECOND FORM's CARD OF 'invigilatorlaw06.ArraysChecks'. -/
def arraysChecksUptoCard : Claim7 := { stood := { row := arraysChecksUptoRow, standIns := [], harness := (true, "321cb13078c86a90322111e2701fb45abb06e137cadc516b6695921f7d1ce5f9"), looks := false }, kinds := [], alts := [], laidByText := true, laidKinds := [.data, .pinned], laidTests := true, laidLooks := .later }
def ArraysChecksUptoCardSaid : Prop := Claim7.holds Tryd.pinned (.plain (OpenSpec.upto arraysChecksSpec)) arraysChecksUptoCard
end Rows
end Go.Proofs.YtimpdfafodaadaaDoor
