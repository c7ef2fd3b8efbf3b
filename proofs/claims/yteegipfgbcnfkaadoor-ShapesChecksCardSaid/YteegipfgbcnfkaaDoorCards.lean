/-
  DERIVED. GIVEN WITH THE SEED: THE CARDS: each row of YteegipfgbcnfkaaDoorRows.lean that lists a variable, with what it lists TIED to the program's text (the seventh form; the later family's looks); each row that meets fmt, with fmt's text TOLD by the authors' own Lean function (tested against real Go, not proved from fmt's source: count such statements apart). THE CARD IS WHAT COUNTS. Prove the row's statement (the work); the ties are given (YteegipfgbcnfkaaDoorTie.lean); close each card by the builder's one call (the guide's Derived/Test/ToyasCard.lean, 'card_holds'). Laid BY PROGRAM, IN A SANDBOX (cutbox-door.mjs). By AI agents, Wed Nov 11 2026. No macro, syntax, notation, axiom, sorry.
-/
import Derived.Test.YteegipfgbcnfkaaDoorRows
import GoSem.ClaimSeven
namespace Go.Proofs.YteegipfgbcnfkaaDoor
namespace Rows

/-- THE TIED CARD OF 'invigilatorlaw05.ShapesChecks'. -/
def shapesChecksCard : Claim7 := { stood := { row := shapesChecksRow, standIns := [], harness := (true, "63cf880db6cca816bcd6a7d436720ac890f8e3bf559af9213eda073f3f99d86b"), looks := false }, kinds := [], alts := [], laidByText := true, laidKinds := [.data, .data, .data], laidTests := true, laidLooks := .later }
def ShapesChecksCardSaid : Prop := Claim7.holds Tryd.pinned (.plain (OpenSpec.ofChange shapesChecksSpec)) shapesChecksCard

/-- THE TIED CARD OF 'invigilatorlaw05.ShapesPlaces'. -/
def shapesPlacesCard : Claim7 := { stood := { row := shapesPlacesRow, standIns := [], harness := (true, "63cf880db6cca816bcd6a7d436720ac890f8e3bf559af9213eda073f3f99d86b"), looks := false }, kinds := [], alts := [], laidByText := true, laidKinds := [.data, .data, .data], laidTests := true, laidLooks := .later }
def ShapesPlacesCardSaid : Prop := Claim7.holds Tryd.pinned (.plain (OpenSpec.ofChange shapesPlacesSpec)) shapesPlacesCard

/-- THE TIED CARD OF 'invigilatorlaw05.ShapesFits'. -/
def shapesFitsCard : Claim7 := { stood := { row := shapesFitsRow, standIns := [], harness := (true, "63cf880db6cca816bcd6a7d436720ac890f8e3bf559af9213eda073f3f99d86b"), looks := false }, kinds := [], alts := [], laidByText := true, laidKinds := [.data, .data, .data], laidTests := true, laidLooks := .later }
def ShapesFitsCardSaid : Prop := Claim7.holds Tryd.pinned (.plain (OpenSpec.ofChange shapesFitsSpec)) shapesFitsCard

/-- THE TIED CARD OF 'invigilatorlaw05.ShapesOrder'. -/
def shapesOrderCard : Claim7 := { stood := { row := shapesOrderRow, standIns := [], harness := (true, "63cf880db6cca816bcd6a7d436720ac890f8e3bf559af9213eda073f3f99d86b"), looks := false }, kinds := [], alts := [], laidByText := true, laidKinds := [.data, .data, .data], laidTests := true, laidLooks := .later }
def ShapesOrderCardSaid : Prop := Claim7.holds Tryd.pinned (.plain (OpenSpec.ofChange shapesOrderSpec)) shapesOrderCard

/-- THE TIED CARD OF 'invigilatorlaw05.ShapesAround'. -/
def shapesAroundCard : Claim7 := { stood := { row := shapesAroundRow, standIns := [], harness := (true, "63cf880db6cca816bcd6a7d436720ac890f8e3bf559af9213eda073f3f99d86b"), looks := false }, kinds := [], alts := [], laidByText := true, laidKinds := [.data, .data, .data], laidTests := true, laidLooks := .later }
def ShapesAroundCardSaid : Prop := Claim7.holds Tryd.pinned (.plain (OpenSpec.ofChange shapesAroundSpec)) shapesAroundCard

/-- THE TIED CARD OF 'invigilatorlaw05.ShapesKnown'. -/
def shapesKnownCard : Claim7 := { stood := { row := shapesKnownRow, standIns := [], harness := (true, "63cf880db6cca816bcd6a7d436720ac890f8e3bf559af9213eda073f3f99d86b"), looks := false }, kinds := [], alts := [], laidByText := true, laidKinds := [.data, .data, .data], laidTests := true, laidLooks := .later }
def ShapesKnownCardSaid : Prop := Claim7.holds Tryd.pinned (.plain (OpenSpec.ofChange shapesKnownSpec)) shapesKnownCard

/-- THE TIED CARD OF 'invigilatorlaw05.ShapesRows'. -/
def shapesRowsCard : Claim7 := { stood := { row := shapesRowsRow, standIns := [], harness := (true, "63cf880db6cca816bcd6a7d436720ac890f8e3bf559af9213eda073f3f99d86b"), looks := false }, kinds := [], alts := [], laidByText := true, laidKinds := [.data, .data, .data], laidTests := true, laidLooks := .later }
def ShapesRowsCardSaid : Prop := Claim7.holds Tryd.pinned (.plain (OpenSpec.ofChange shapesRowsSpec)) shapesRowsCard

/-- THE TIED CARD OF 'invigilatorlaw05.ShapesSame'. -/
def shapesSameCard : Claim7 := { stood := { row := shapesSameRow, standIns := [], harness := (true, "63cf880db6cca816bcd6a7d436720ac890f8e3bf559af9213eda073f3f99d86b"), looks := false }, kinds := [], alts := [], laidByText := true, laidKinds := [.data, .data, .data], laidTests := true, laidLooks := .later }
def ShapesSameCardSaid : Prop := Claim7.holds Tryd.pinned (.plain (OpenSpec.ofChange shapesSameSpec)) shapesSameCard

/-- THE SECOND FORM's CARD OF 'invigilatorlaw05.ShapesChecks'. -/
def shapesChecksUptoCard : Claim7 := { stood := { row := shapesChecksUptoRow, standIns := [], harness := (true, "63cf880db6cca816bcd6a7d436720ac890f8e3bf559af9213eda073f3f99d86b"), looks := false }, kinds := [], alts := [], laidByText := true, laidKinds := [.data, .data, .data], laidTests := true, laidLooks := .later }
def ShapesChecksUptoCardSaid : Prop := Claim7.holds Tryd.pinned (.plain (OpenSpec.upto shapesChecksSpec)) shapesChecksUptoCard

/-- THE SECOND FORM's CARD OF 'invigilatorlaw05.ShapesPlaces'. -/
def shapesPlacesUptoCard : Claim7 := { stood := { row := shapesPlacesUptoRow, standIns := [], harness := (true, "63cf880db6cca816bcd6a7d436720ac890f8e3bf559af9213eda073f3f99d86b"), looks := false }, kinds := [], alts := [], laidByText := true, laidKinds := [.data, .data, .data], laidTests := true, laidLooks := .later }
def ShapesPlacesUptoCardSaid : Prop := Claim7.holds Tryd.pinned (.plain (OpenSpec.upto shapesPlacesSpec)) shapesPlacesUptoCard

/-- THE SECOND FORM's CARD OF 'invigilatorlaw05.ShapesFits'. -/
def shapesFitsUptoCard : Claim7 := { stood := { row := shapesFitsUptoRow, standIns := [], harness := (true, "63cf880db6cca816bcd6a7d436720ac890f8e3bf559af9213eda073f3f99d86b"), looks := false }, kinds := [], alts := [], laidByText := true, laidKinds := [.data, .data, .data], laidTests := true, laidLooks := .later }
def ShapesFitsUptoCardSaid : Prop := Claim7.holds Tryd.pinned (.plain (OpenSpec.upto shapesFitsSpec)) shapesFitsUptoCard

/-- THE SECOND FORM's CARD OF 'invigilatorlaw05.ShapesOrder'. -/
def shapesOrderUptoCard : Claim7 := { stood := { row := shapesOrderUptoRow, standIns := [], harness := (true, "63cf880db6cca816bcd6a7d436720ac890f8e3bf559af9213eda073f3f99d86b"), looks := false }, kinds := [], alts := [], laidByText := true, laidKinds := [.data, .data, .data], laidTests := true, laidLooks := .later }
def ShapesOrderUptoCardSaid : Prop := Claim7.holds Tryd.pinned (.plain (OpenSpec.upto shapesOrderSpec)) shapesOrderUptoCard

/-- THE SECOND FORM's CARD OF 'invigilatorlaw05.ShapesAround'. -/
def shapesAroundUptoCard : Claim7 := { stood := { row := shapesAroundUptoRow, standIns := [], harness := (true, "63cf880db6cca816bcd6a7d436720ac890f8e3bf559af9213eda073f3f99d86b"), looks := false }, kinds := [], alts := [], laidByText := true, laidKinds := [.data, .data, .data], laidTests := true, laidLooks := .later }
def ShapesAroundUptoCardSaid : Prop := Claim7.holds Tryd.pinned (.plain (OpenSpec.upto shapesAroundSpec)) shapesAroundUptoCard

/-- THE SECOND FORM's CARD OF 'invigilatorlaw05.ShapesKnown'. -/
def shapesKnownUptoCard : Claim7 := { stood := { row := shapesKnownUptoRow, standIns := [], harness := (true, "63cf880db6cca816bcd6a7d436720ac890f8e3bf559af9213eda073f3f99d86b"), looks := false }, kinds := [], alts := [], laidByText := true, laidKinds := [.data, .data, .data], laidTests := true, laidLooks := .later }
def ShapesKnownUptoCardSaid : Prop := Claim7.holds Tryd.pinned (.plain (OpenSpec.upto shapesKnownSpec)) shapesKnownUptoCard

/-- THE SECOND FORM's CARD OF 'invigilatorlaw05.ShapesRows'. -/
def shapesRowsUptoCard : Claim7 := { stood := { row := shapesRowsUptoRow, standIns := [], harness := (true, "63cf880db6cca816bcd6a7d436720ac890f8e3bf559af9213eda073f3f99d86b"), looks := false }, kinds := [], alts := [], laidByText := true, laidKinds := [.data, .data, .data], laidTests := true, laidLooks := .later }
def ShapesRowsUptoCardSaid : Prop := Claim7.holds Tryd.pinned (.plain (OpenSpec.upto shapesRowsSpec)) shapesRowsUptoCard

/-- THE SECOND FORM's CARD OF 'invigilatorlaw05.ShapesSame'. -/
def shapesSameUptoCard : Claim7 := { stood := { row := shapesSameUptoRow, standIns := [], harness := (true, "63cf880db6cca816bcd6a7d436720ac890f8e3bf559af9213eda073f3f99d86b"), looks := false }, kinds := [], alts := [], laidByText := true, laidKinds := [.data, .data, .data], laidTests := true, laidLooks := .later }
def ShapesSameUptoCardSaid : Prop := Claim7.holds Tryd.pinned (.plain (OpenSpec.upto shapesSameSpec)) shapesSameUptoCard
end Rows
end Go.Proofs.YteegipfgbcnfkaaDoor
