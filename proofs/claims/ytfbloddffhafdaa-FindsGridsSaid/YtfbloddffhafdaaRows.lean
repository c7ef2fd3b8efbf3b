/-
  No cell of these rows narrows 'for every input' (looked for: loops, veiled, ifaces, maps, wideKeys, modest, calm, conditions, laid).
  DERIVED. THE GIVEN ROWS OF THIS SEAT. 8 by the template 'for every input the law returns true; each argument reads behind the call as it read before'; 0 by the template 'total and deterministic' (their statements: YtfbloddffhafdaaTotals.lean).
  GIVEN WITH THE SEED: the statements are not yours to turn. If you find one false, say at which input.
  Laid BY PROGRAM, IN A SANDBOX (cutbox-rows.mjs): the forced cells as the released guide's own fill.sh prints them over the translation 942a3e3eb5a4f02f… (all of the seat's roots in one cut). By AI agents, Wed Nov 11 2026. No macro, syntax, notation, axiom, sorry.
-/
import Derived.Test.YtfbloddffhafdaaChecked
import GoSem.Claim
import GoSem.ClaimJoined
import GoSem.ClaimMapViews
import Derived.JoinedTies
import Derived.KernelRfl
namespace Go.Proofs.Ytfbloddffhafdaa
/- THE CELL 'sum', in the pinned program and in every row, IS THE sha256 OF THE DUMP (.gsa) THAT YtfbloddffhafdaaProg.lean LOADS. Nothing in Lean hashes anything: it is a label: what it is worth is what the hold of that sum in a sandbox is worth. -/
noncomputable def Try.pinned : Pinned := { name := "ytfbloddffhafdaa", sum := "942a3e3eb5a4f02f870000cd56d21f3c5292cba665eb13ccfd1c4efa0fcebcc4", checked := Try.checked }
namespace Rows
def none {H : Type} : Left H := { results := [], args := [] }

/-- 'invigilatorlaw08.FindsShapes': WHATEVER THE INPUT: true; the input reads as it did. -/
def findsShapesSpec : ChangeSpec := { name := "findsShapes", fn := fun _ => fun
  | [d1, d2] => { results := [.lit (.bool true)], args := [d1, d2] }
  | _ => none }
def findsShapesRow : OpenClaim := { program := "ytfbloddffhafdaa", sum := "942a3e3eb5a4f02f870000cd56d21f3c5292cba665eb13ccfd1c4efa0fcebcc4", func := "invigilator/invigilatorlaw08.FindsShapes", spec := "findsShapes", unfollowed := true, recurses := true, apart := false }
def FindsShapesSaid : Prop := findsShapesRow.holds Try.pinned (OpenSpec.ofChange findsShapesSpec)

/-- ITS FALSE NEIGHBOUR: 'it returns false'. Refute it at one input. -/
def findsShapesWrong : ChangeSpec := { name := "findsShapes", fn := fun _ => fun
  | [d1, d2] => { results := [.lit (.bool false)], args := [d1, d2] }
  | _ => none }
def FindsShapesWrongFalsely : Prop := findsShapesRow.holds Try.pinned (OpenSpec.ofChange findsShapesWrong)

/-- 'invigilatorlaw08.FindsPlaces': WHATEVER THE INPUT: true; the input reads as it did. -/
def findsPlacesSpec : ChangeSpec := { name := "findsPlaces", fn := fun _ => fun
  | [d1, d2] => { results := [.lit (.bool true)], args := [d1, d2] }
  | _ => none }
def findsPlacesRow : OpenClaim := { program := "ytfbloddffhafdaa", sum := "942a3e3eb5a4f02f870000cd56d21f3c5292cba665eb13ccfd1c4efa0fcebcc4", func := "invigilator/invigilatorlaw08.FindsPlaces", spec := "findsPlaces", unfollowed := true, recurses := true, apart := false }
def FindsPlacesSaid : Prop := findsPlacesRow.holds Try.pinned (OpenSpec.ofChange findsPlacesSpec)

/-- ITS FALSE NEIGHBOUR: 'it returns false'. Refute it at one input. -/
def findsPlacesWrong : ChangeSpec := { name := "findsPlaces", fn := fun _ => fun
  | [d1, d2] => { results := [.lit (.bool false)], args := [d1, d2] }
  | _ => none }
def FindsPlacesWrongFalsely : Prop := findsPlacesRow.holds Try.pinned (OpenSpec.ofChange findsPlacesWrong)

/-- 'invigilatorlaw08.FindsChoices': WHATEVER THE INPUT: true; the input reads as it did. -/
def findsChoicesSpec : ChangeSpec := { name := "findsChoices", fn := fun _ => fun
  | [d1, d2] => { results := [.lit (.bool true)], args := [d1, d2] }
  | _ => none }
def findsChoicesRow : OpenClaim := { program := "ytfbloddffhafdaa", sum := "942a3e3eb5a4f02f870000cd56d21f3c5292cba665eb13ccfd1c4efa0fcebcc4", func := "invigilator/invigilatorlaw08.FindsChoices", spec := "findsChoices", unfollowed := true, recurses := true, apart := false }
def FindsChoicesSaid : Prop := findsChoicesRow.holds Try.pinned (OpenSpec.ofChange findsChoicesSpec)

/-- ITS FALSE NEIGHBOUR: 'it returns false'. Refute it at one input. -/
def findsChoicesWrong : ChangeSpec := { name := "findsChoices", fn := fun _ => fun
  | [d1, d2] => { results := [.lit (.bool false)], args := [d1, d2] }
  | _ => none }
def FindsChoicesWrongFalsely : Prop := findsChoicesRow.holds Try.pinned (OpenSpec.ofChange findsChoicesWrong)

/-- 'invigilatorlaw08.FindsSorts': WHATEVER THE INPUT: true; the input reads as it did. -/
def findsSortsSpec : ChangeSpec := { name := "findsSorts", fn := fun _ => fun
  | [d] => { results := [.lit (.bool true)], args := [d] }
  | _ => none }
def findsSortsRow : OpenClaim := { program := "ytfbloddffhafdaa", sum := "942a3e3eb5a4f02f870000cd56d21f3c5292cba665eb13ccfd1c4efa0fcebcc4", func := "invigilator/invigilatorlaw08.FindsSorts", spec := "findsSorts", unfollowed := true, recurses := true, apart := false }
def FindsSortsSaid : Prop := findsSortsRow.holds Try.pinned (OpenSpec.ofChange findsSortsSpec)

/-- ITS FALSE NEIGHBOUR: 'it returns false'. Refute it at one input. -/
def findsSortsWrong : ChangeSpec := { name := "findsSorts", fn := fun _ => fun
  | [d] => { results := [.lit (.bool false)], args := [d] }
  | _ => none }
def FindsSortsWrongFalsely : Prop := findsSortsRow.holds Try.pinned (OpenSpec.ofChange findsSortsWrong)

/-- 'invigilatorlaw08.FindsLooks': WHATEVER THE INPUT: true; the input reads as it did. -/
def findsLooksSpec : ChangeSpec := { name := "findsLooks", fn := fun _ => fun
  | [d1, d2, d3] => { results := [.lit (.bool true)], args := [d1, d2, d3] }
  | _ => none }
def findsLooksRow : OpenClaim := { program := "ytfbloddffhafdaa", sum := "942a3e3eb5a4f02f870000cd56d21f3c5292cba665eb13ccfd1c4efa0fcebcc4", func := "invigilator/invigilatorlaw08.FindsLooks", spec := "findsLooks", unfollowed := true, recurses := true, apart := false }
def FindsLooksSaid : Prop := findsLooksRow.holds Try.pinned (OpenSpec.ofChange findsLooksSpec)

/-- ITS FALSE NEIGHBOUR: 'it returns false'. Refute it at one input. -/
def findsLooksWrong : ChangeSpec := { name := "findsLooks", fn := fun _ => fun
  | [d1, d2, d3] => { results := [.lit (.bool false)], args := [d1, d2, d3] }
  | _ => none }
def FindsLooksWrongFalsely : Prop := findsLooksRow.holds Try.pinned (OpenSpec.ofChange findsLooksWrong)

/-- 'invigilatorlaw08.FindsMembers': WHATEVER THE INPUT: true; the input reads as it did. -/
def findsMembersSpec : ChangeSpec := { name := "findsMembers", fn := fun _ => fun
  | [d1, d2, d3] => { results := [.lit (.bool true)], args := [d1, d2, d3] }
  | _ => none }
def findsMembersRow : OpenClaim := { program := "ytfbloddffhafdaa", sum := "942a3e3eb5a4f02f870000cd56d21f3c5292cba665eb13ccfd1c4efa0fcebcc4", func := "invigilator/invigilatorlaw08.FindsMembers", spec := "findsMembers", unfollowed := true, recurses := true, apart := false }
def FindsMembersSaid : Prop := findsMembersRow.holds Try.pinned (OpenSpec.ofChange findsMembersSpec)

/-- ITS FALSE NEIGHBOUR: 'it returns false'. Refute it at one input. -/
def findsMembersWrong : ChangeSpec := { name := "findsMembers", fn := fun _ => fun
  | [d1, d2, d3] => { results := [.lit (.bool false)], args := [d1, d2, d3] }
  | _ => none }
def FindsMembersWrongFalsely : Prop := findsMembersRow.holds Try.pinned (OpenSpec.ofChange findsMembersWrong)

/-- 'invigilatorlaw08.FindsPicks': WHATEVER THE INPUT: true; the input reads as it did. -/
def findsPicksSpec : ChangeSpec := { name := "findsPicks", fn := fun _ => fun
  | [d1, d2] => { results := [.lit (.bool true)], args := [d1, d2] }
  | _ => none }
def findsPicksRow : OpenClaim := { program := "ytfbloddffhafdaa", sum := "942a3e3eb5a4f02f870000cd56d21f3c5292cba665eb13ccfd1c4efa0fcebcc4", func := "invigilator/invigilatorlaw08.FindsPicks", spec := "findsPicks", unfollowed := true, recurses := true, apart := false }
def FindsPicksSaid : Prop := findsPicksRow.holds Try.pinned (OpenSpec.ofChange findsPicksSpec)

/-- ITS FALSE NEIGHBOUR: 'it returns false'. Refute it at one input. -/
def findsPicksWrong : ChangeSpec := { name := "findsPicks", fn := fun _ => fun
  | [d1, d2] => { results := [.lit (.bool false)], args := [d1, d2] }
  | _ => none }
def FindsPicksWrongFalsely : Prop := findsPicksRow.holds Try.pinned (OpenSpec.ofChange findsPicksWrong)

/-- 'invigilatorlaw08.FindsGrids': WHATEVER THE INPUT: true; the input reads as it did. -/
def findsGridsSpec : ChangeSpec := { name := "findsGrids", fn := fun _ => fun
  | [d1, d2] => { results := [.lit (.bool true)], args := [d1, d2] }
  | _ => none }
def findsGridsRow : OpenClaim := { program := "ytfbloddffhafdaa", sum := "942a3e3eb5a4f02f870000cd56d21f3c5292cba665eb13ccfd1c4efa0fcebcc4", func := "invigilator/invigilatorlaw08.FindsGrids", spec := "findsGrids", unfollowed := true, recurses := true, apart := false }
def FindsGridsSaid : Prop := findsGridsRow.holds Try.pinned (OpenSpec.ofChange findsGridsSpec)

/-- ITS FALSE NEIGHBOUR: 'it returns false'. Refute it at one input. -/
def findsGridsWrong : ChangeSpec := { name := "findsGrids", fn := fun _ => fun
  | [d1, d2] => { results := [.lit (.bool false)], args := [d1, d2] }
  | _ => none }
def FindsGridsWrongFalsely : Prop := findsGridsRow.holds Try.pinned (OpenSpec.ofChange findsGridsWrong)

/- THE SECOND FORM. 'bulk': how many values and letters a reading holds, each counted each time it is reached (what is shared counts as often as it is met; a slice's spare places count too). A statement '..UptoSaid' is the law's where the arguments, and the package variables that the reading takes, are together of bulk at most 1048576: NARROWER than '..Said'. Prove '..Said' where nothing that the law and all that it calls make is longer than what came in: it says more and counts as full. Else prove '..UptoSaid'. A law counts once. -/
mutual
def uptoBulk {H : Type} : DataW H → Nat
  | .lit (.string bytes) => bytes.length + 1
  | .lit _ => 1
  | .nil => 1
  | .ptr d => uptoBulk d + 1
  | .slice elems spare => uptoBulkAll elems + uptoBulkAll spare + 1
  | .agg parts => uptoBulkAll parts + 1
  | .iface _ d => uptoBulk d + 1
  | .map entries => uptoBulkEntries entries + 1
  | .held _ => 1
def uptoBulkAll {H : Type} : List (DataW H) → Nat
  | [] => 0
  | d :: r => uptoBulk d + uptoBulkAll r
def uptoBulkEntries {H : Type} : List (Lit × DataW H) → Nat
  | [] => 0
  | x :: r => uptoBulkEntry x + uptoBulkEntries r
def uptoBulkEntry {H : Type} : Lit × DataW H → Nat
  | (.string bytes, d) => bytes.length + uptoBulk d + 1
  | (_, d) => uptoBulk d + 1
 end
def uptoSmall : (H : Type) → List (DataW H) → Bool := fun _ ds => decide (uptoBulkAll ds ≤ 1048576)
def OpenSpec.upto (s : _root_.Go.ChangeSpec) : _root_.Go.OpenSpec := { _root_.Go.OpenSpec.ofChange s with cond := some uptoSmall }

/-- 'invigilatorlaw08.FindsShapes', WHERE WHAT IT READS IS OF BULK AT MOST 1048576: true; the input reads as it did. -/
def findsShapesUptoRow : OpenClaim := { program := "ytfbloddffhafdaa", sum := "942a3e3eb5a4f02f870000cd56d21f3c5292cba665eb13ccfd1c4efa0fcebcc4", func := "invigilator/invigilatorlaw08.FindsShapes", spec := "findsShapes", unfollowed := true, recurses := true, apart := false, narrowed := true }
def FindsShapesUptoSaid : Prop := findsShapesUptoRow.holds Try.pinned (OpenSpec.upto findsShapesSpec)

/-- 'invigilatorlaw08.FindsPlaces', WHERE WHAT IT READS IS OF BULK AT MOST 1048576: true; the input reads as it did. -/
def findsPlacesUptoRow : OpenClaim := { program := "ytfbloddffhafdaa", sum := "942a3e3eb5a4f02f870000cd56d21f3c5292cba665eb13ccfd1c4efa0fcebcc4", func := "invigilator/invigilatorlaw08.FindsPlaces", spec := "findsPlaces", unfollowed := true, recurses := true, apart := false, narrowed := true }
def FindsPlacesUptoSaid : Prop := findsPlacesUptoRow.holds Try.pinned (OpenSpec.upto findsPlacesSpec)

/-- 'invigilatorlaw08.FindsChoices', WHERE WHAT IT READS IS OF BULK AT MOST 1048576: true; the input reads as it did. -/
def findsChoicesUptoRow : OpenClaim := { program := "ytfbloddffhafdaa", sum := "942a3e3eb5a4f02f870000cd56d21f3c5292cba665eb13ccfd1c4efa0fcebcc4", func := "invigilator/invigilatorlaw08.FindsChoices", spec := "findsChoices", unfollowed := true, recurses := true, apart := false, narrowed := true }
def FindsChoicesUptoSaid : Prop := findsChoicesUptoRow.holds Try.pinned (OpenSpec.upto findsChoicesSpec)

/-- 'invigilatorlaw08.FindsSorts', WHERE WHAT IT READS IS OF BULK AT MOST 1048576: true; the input reads as it did. -/
def findsSortsUptoRow : OpenClaim := { program := "ytfbloddffhafdaa", sum := "942a3e3eb5a4f02f870000cd56d21f3c5292cba665eb13ccfd1c4efa0fcebcc4", func := "invigilator/invigilatorlaw08.FindsSorts", spec := "findsSorts", unfollowed := true, recurses := true, apart := false, narrowed := true }
def FindsSortsUptoSaid : Prop := findsSortsUptoRow.holds Try.pinned (OpenSpec.upto findsSortsSpec)

/-- 'invigilatorlaw08.FindsLooks', WHERE WHAT IT READS IS OF BULK AT MOST 1048576: true; the input reads as it did. -/
def findsLooksUptoRow : OpenClaim := { program := "ytfbloddffhafdaa", sum := "942a3e3eb5a4f02f870000cd56d21f3c5292cba665eb13ccfd1c4efa0fcebcc4", func := "invigilator/invigilatorlaw08.FindsLooks", spec := "findsLooks", unfollowed := true, recurses := true, apart := false, narrowed := true }
def FindsLooksUptoSaid : Prop := findsLooksUptoRow.holds Try.pinned (OpenSpec.upto findsLooksSpec)

/-- 'invigilatorlaw08.FindsMembers', WHERE WHAT IT READS IS OF BULK AT MOST 1048576: true; the input reads as it did. -/
def findsMembersUptoRow : OpenClaim := { program := "ytfbloddffhafdaa", sum := "942a3e3eb5a4f02f870000cd56d21f3c5292cba665eb13ccfd1c4efa0fcebcc4", func := "invigilator/invigilatorlaw08.FindsMembers", spec := "findsMembers", unfollowed := true, recurses := true, apart := false, narrowed := true }
def FindsMembersUptoSaid : Prop := findsMembersUptoRow.holds Try.pinned (OpenSpec.upto findsMembersSpec)

/-- 'invigilatorlaw08.FindsPicks', WHERE WHAT IT READS IS OF BULK AT MOST 1048576: true; the input reads as it did. -/
def findsPicksUptoRow : OpenClaim := { program := "ytfbloddffhafdaa", sum := "942a3e3eb5a4f02f870000cd56d21f3c5292cba665eb13ccfd1c4efa0fcebcc4", func := "invigilator/invigilatorlaw08.FindsPicks", spec := "findsPicks", unfollowed := true, recurses := true, apart := false, narrowed := true }
def FindsPicksUptoSaid : Prop := findsPicksUptoRow.holds Try.pinned (OpenSpec.upto findsPicksSpec)

/-- 'invigilatorlaw08.FindsGrids', WHERE WHAT IT READS IS OF BULK AT MOST 1048576: true; the input reads as it did. -/
def findsGridsUptoRow : OpenClaim := { program := "ytfbloddffhafdaa", sum := "942a3e3eb5a4f02f870000cd56d21f3c5292cba665eb13ccfd1c4efa0fcebcc4", func := "invigilator/invigilatorlaw08.FindsGrids", spec := "findsGrids", unfollowed := true, recurses := true, apart := false, narrowed := true }
def FindsGridsUptoSaid : Prop := findsGridsUptoRow.holds Try.pinned (OpenSpec.upto findsGridsSpec)

end Rows
end Go.Proofs.Ytfbloddffhafdaa
