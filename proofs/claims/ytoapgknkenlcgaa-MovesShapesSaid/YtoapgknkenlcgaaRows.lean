/-
  No cell of these rows narrows 'for every input' (looked for: loops, veiled, ifaces, maps, wideKeys, modest, calm, conditions, laid).
  DERIVED. THE GIVEN ROWS OF THIS SEAT. 8 by the template 'for every input the law returns true; each argument reads behind the call as it read before'; 0 by the template 'total and deterministic' (their statements: YtoapgknkenlcgaaTotals.lean).
  GIVEN WITH THE SEED: the statements are not yours to turn. If you find one false, say at which input.
  Laid BY PROGRAM, IN A SANDBOX (cutbox-rows.mjs): the forced cells as the released guide's own fill.sh prints them over the translation cb961922aa8f47f0… (all of the seat's roots in one cut). By AI agents, Wed Nov 11 2026. No macro, syntax, notation, axiom, sorry.
-/
import Derived.Test.YtoapgknkenlcgaaChecked
import GoSem.Claim
import GoSem.ClaimJoined
import GoSem.ClaimMapViews
import Derived.JoinedTies
import Derived.KernelRfl
namespace Go.Proofs.Ytoapgknkenlcgaa
/- THE CELL 'sum', in the pinned program and in every row, IS THE sha256 OF THE DUMP (.gsa) THAT YtoapgknkenlcgaaProg.lean LOADS. Nothing in Lean hashes anything: it is a label: what it is worth is what the hold of that sum in a sandbox is worth. -/
noncomputable def Try.pinned : Pinned := { name := "ytoapgknkenlcgaa", sum := "cb961922aa8f47f0b4d65a303f06bb8a7acb7c0d94658370a68aaf5735e3ee1f", checked := Try.checked }
namespace Rows
def none {H : Type} : Left H := { results := [], args := [] }

/-- 'invigilatorlaw07.MovesTakes': WHATEVER THE INPUT: true; the input reads as it did. -/
def movesTakesSpec : ChangeSpec := { name := "movesTakes", fn := fun _ => fun
  | [d1, d2] => { results := [.lit (.bool true)], args := [d1, d2] }
  | _ => none }
def movesTakesRow : OpenClaim := { program := "ytoapgknkenlcgaa", sum := "cb961922aa8f47f0b4d65a303f06bb8a7acb7c0d94658370a68aaf5735e3ee1f", func := "invigilator/invigilatorlaw07.MovesTakes", spec := "movesTakes", unfollowed := true, recurses := true, apart := false }
def MovesTakesSaid : Prop := movesTakesRow.holds Try.pinned (OpenSpec.ofChange movesTakesSpec)

/-- ITS FALSE NEIGHBOUR: 'it returns false'. Refute it at one input. -/
def movesTakesWrong : ChangeSpec := { name := "movesTakes", fn := fun _ => fun
  | [d1, d2] => { results := [.lit (.bool false)], args := [d1, d2] }
  | _ => none }
def MovesTakesWrongFalsely : Prop := movesTakesRow.holds Try.pinned (OpenSpec.ofChange movesTakesWrong)

/-- 'invigilatorlaw07.MovesFills': WHATEVER THE INPUT: true; the input reads as it did. -/
def movesFillsSpec : ChangeSpec := { name := "movesFills", fn := fun _ => fun
  | [d1, d2] => { results := [.lit (.bool true)], args := [d1, d2] }
  | _ => none }
def movesFillsRow : OpenClaim := { program := "ytoapgknkenlcgaa", sum := "cb961922aa8f47f0b4d65a303f06bb8a7acb7c0d94658370a68aaf5735e3ee1f", func := "invigilator/invigilatorlaw07.MovesFills", spec := "movesFills", unfollowed := true, recurses := true, apart := false }
def MovesFillsSaid : Prop := movesFillsRow.holds Try.pinned (OpenSpec.ofChange movesFillsSpec)

/-- ITS FALSE NEIGHBOUR: 'it returns false'. Refute it at one input. -/
def movesFillsWrong : ChangeSpec := { name := "movesFills", fn := fun _ => fun
  | [d1, d2] => { results := [.lit (.bool false)], args := [d1, d2] }
  | _ => none }
def MovesFillsWrongFalsely : Prop := movesFillsRow.holds Try.pinned (OpenSpec.ofChange movesFillsWrong)

/-- 'invigilatorlaw07.MovesCats': WHATEVER THE INPUT: true; the input reads as it did. -/
def movesCatsSpec : ChangeSpec := { name := "movesCats", fn := fun _ => fun
  | [d1, d2] => { results := [.lit (.bool true)], args := [d1, d2] }
  | _ => none }
def movesCatsRow : OpenClaim := { program := "ytoapgknkenlcgaa", sum := "cb961922aa8f47f0b4d65a303f06bb8a7acb7c0d94658370a68aaf5735e3ee1f", func := "invigilator/invigilatorlaw07.MovesCats", spec := "movesCats", unfollowed := true, recurses := true, apart := false }
def MovesCatsSaid : Prop := movesCatsRow.holds Try.pinned (OpenSpec.ofChange movesCatsSpec)

/-- ITS FALSE NEIGHBOUR: 'it returns false'. Refute it at one input. -/
def movesCatsWrong : ChangeSpec := { name := "movesCats", fn := fun _ => fun
  | [d1, d2] => { results := [.lit (.bool false)], args := [d1, d2] }
  | _ => none }
def MovesCatsWrongFalsely : Prop := movesCatsRow.holds Try.pinned (OpenSpec.ofChange movesCatsWrong)

/-- 'invigilatorlaw07.MovesBack': WHATEVER THE INPUT: true; the input reads as it did. -/
def movesBackSpec : ChangeSpec := { name := "movesBack", fn := fun _ => fun
  | [d] => { results := [.lit (.bool true)], args := [d] }
  | _ => none }
def movesBackRow : OpenClaim := { program := "ytoapgknkenlcgaa", sum := "cb961922aa8f47f0b4d65a303f06bb8a7acb7c0d94658370a68aaf5735e3ee1f", func := "invigilator/invigilatorlaw07.MovesBack", spec := "movesBack", unfollowed := true, recurses := true, apart := false }
def MovesBackSaid : Prop := movesBackRow.holds Try.pinned (OpenSpec.ofChange movesBackSpec)

/-- ITS FALSE NEIGHBOUR: 'it returns false'. Refute it at one input. -/
def movesBackWrong : ChangeSpec := { name := "movesBack", fn := fun _ => fun
  | [d] => { results := [.lit (.bool false)], args := [d] }
  | _ => none }
def MovesBackWrongFalsely : Prop := movesBackRow.holds Try.pinned (OpenSpec.ofChange movesBackWrong)

/-- 'invigilatorlaw07.MovesParts': WHATEVER THE INPUT: true; the input reads as it did. -/
def movesPartsSpec : ChangeSpec := { name := "movesParts", fn := fun _ => fun
  | [d1, d2, d3] => { results := [.lit (.bool true)], args := [d1, d2, d3] }
  | _ => none }
def movesPartsRow : OpenClaim := { program := "ytoapgknkenlcgaa", sum := "cb961922aa8f47f0b4d65a303f06bb8a7acb7c0d94658370a68aaf5735e3ee1f", func := "invigilator/invigilatorlaw07.MovesParts", spec := "movesParts", unfollowed := true, recurses := true, apart := false }
def MovesPartsSaid : Prop := movesPartsRow.holds Try.pinned (OpenSpec.ofChange movesPartsSpec)

/-- ITS FALSE NEIGHBOUR: 'it returns false'. Refute it at one input. -/
def movesPartsWrong : ChangeSpec := { name := "movesParts", fn := fun _ => fun
  | [d1, d2, d3] => { results := [.lit (.bool false)], args := [d1, d2, d3] }
  | _ => none }
def MovesPartsWrongFalsely : Prop := movesPartsRow.holds Try.pinned (OpenSpec.ofChange movesPartsWrong)

/-- 'invigilatorlaw07.MovesJoins': WHATEVER THE INPUT: true; the input reads as it did. -/
def movesJoinsSpec : ChangeSpec := { name := "movesJoins", fn := fun _ => fun
  | [d1, d2, d3] => { results := [.lit (.bool true)], args := [d1, d2, d3] }
  | _ => none }
def movesJoinsRow : OpenClaim := { program := "ytoapgknkenlcgaa", sum := "cb961922aa8f47f0b4d65a303f06bb8a7acb7c0d94658370a68aaf5735e3ee1f", func := "invigilator/invigilatorlaw07.MovesJoins", spec := "movesJoins", unfollowed := true, recurses := true, apart := false }
def MovesJoinsSaid : Prop := movesJoinsRow.holds Try.pinned (OpenSpec.ofChange movesJoinsSpec)

/-- ITS FALSE NEIGHBOUR: 'it returns false'. Refute it at one input. -/
def movesJoinsWrong : ChangeSpec := { name := "movesJoins", fn := fun _ => fun
  | [d1, d2, d3] => { results := [.lit (.bool false)], args := [d1, d2, d3] }
  | _ => none }
def MovesJoinsWrongFalsely : Prop := movesJoinsRow.holds Try.pinned (OpenSpec.ofChange movesJoinsWrong)

/-- 'invigilatorlaw07.MovesTurns': WHATEVER THE INPUT: true; the input reads as it did. -/
def movesTurnsSpec : ChangeSpec := { name := "movesTurns", fn := fun _ => fun
  | [d] => { results := [.lit (.bool true)], args := [d] }
  | _ => none }
def movesTurnsRow : OpenClaim := { program := "ytoapgknkenlcgaa", sum := "cb961922aa8f47f0b4d65a303f06bb8a7acb7c0d94658370a68aaf5735e3ee1f", func := "invigilator/invigilatorlaw07.MovesTurns", spec := "movesTurns", unfollowed := true, recurses := true, apart := false }
def MovesTurnsSaid : Prop := movesTurnsRow.holds Try.pinned (OpenSpec.ofChange movesTurnsSpec)

/-- ITS FALSE NEIGHBOUR: 'it returns false'. Refute it at one input. -/
def movesTurnsWrong : ChangeSpec := { name := "movesTurns", fn := fun _ => fun
  | [d] => { results := [.lit (.bool false)], args := [d] }
  | _ => none }
def MovesTurnsWrongFalsely : Prop := movesTurnsRow.holds Try.pinned (OpenSpec.ofChange movesTurnsWrong)

/-- 'invigilatorlaw07.MovesShapes': WHATEVER THE INPUT: true; the input reads as it did. -/
def movesShapesSpec : ChangeSpec := { name := "movesShapes", fn := fun _ => fun
  | [d1, d2, d3] => { results := [.lit (.bool true)], args := [d1, d2, d3] }
  | _ => none }
def movesShapesRow : OpenClaim := { program := "ytoapgknkenlcgaa", sum := "cb961922aa8f47f0b4d65a303f06bb8a7acb7c0d94658370a68aaf5735e3ee1f", func := "invigilator/invigilatorlaw07.MovesShapes", spec := "movesShapes", unfollowed := true, recurses := true, apart := false }
def MovesShapesSaid : Prop := movesShapesRow.holds Try.pinned (OpenSpec.ofChange movesShapesSpec)

/-- ITS FALSE NEIGHBOUR: 'it returns false'. Refute it at one input. -/
def movesShapesWrong : ChangeSpec := { name := "movesShapes", fn := fun _ => fun
  | [d1, d2, d3] => { results := [.lit (.bool false)], args := [d1, d2, d3] }
  | _ => none }
def MovesShapesWrongFalsely : Prop := movesShapesRow.holds Try.pinned (OpenSpec.ofChange movesShapesWrong)

/- THE SECOND FORM. 'bulk': how many values and letters a reading holds, each counted each time it is reached (what is shared counts as often as it is met; a slice's spare places count too). A statement '..UptoSaid' is the law's where the arguments, and the package variables that the reading takes, are together of bulk at most 1048576: NARROWER than '..Said'. Prove '..Said' where nothing that the law and all that it calls make is longer than what came in: it says more and counts as full. Else prove '..UptoSaid'. A law counts once. -/
mutual
def uptoBulk {H : Type} : DataW H → Nat
  | .lit (.string bytes) => bytes.length + 1
  | .lit _ => 1
  | .nil => 1
  | .ptr d => uptoBulk d + 1
  | .slice elems spare => uptoBulkAll elems + uptoBulkAll spare + 1
  | .agg parts => uptoBulkAll parts + 1
  | .iface _ d => uptoBulk d + 1
  | .map entries => uptoBulkEntries entries + 1
  | .held _ => 1
def uptoBulkAll {H : Type} : List (DataW H) → Nat
  | [] => 0
  | d :: r => uptoBulk d + uptoBulkAll r
def uptoBulkEntries {H : Type} : List (Lit × DataW H) → Nat
  | [] => 0
  | x :: r => uptoBulkEntry x + uptoBulkEntries r
def uptoBulkEntry {H : Type} : Lit × DataW H → Nat
  | (.string bytes, d) => bytes.length + uptoBulk d + 1
  | (_, d) => uptoBulk d + 1
 end
def uptoSmall : (H : Type) → List (DataW H) → Bool := fun _ ds => decide (uptoBulkAll ds ≤ 1048576)
def OpenSpec.upto (s : _root_.Go.ChangeSpec) : _root_.Go.OpenSpec := { _root_.Go.OpenSpec.ofChange s with cond := some uptoSmall }

/-- 'invigilatorlaw07.MovesTakes', WHERE WHAT IT READS IS OF BULK AT MOST 1048576: true; the input reads as it did. -/
def movesTakesUptoRow : OpenClaim := { program := "ytoapgknkenlcgaa", sum := "cb961922aa8f47f0b4d65a303f06bb8a7acb7c0d94658370a68aaf5735e3ee1f", func := "invigilator/invigilatorlaw07.MovesTakes", spec := "movesTakes", unfollowed := true, recurses := true, apart := false, narrowed := true }
def MovesTakesUptoSaid : Prop := movesTakesUptoRow.holds Try.pinned (OpenSpec.upto movesTakesSpec)

/-- 'invigilatorlaw07.MovesFills', WHERE WHAT IT READS IS OF BULK AT MOST 1048576: true; the input reads as it did. -/
def movesFillsUptoRow : OpenClaim := { program := "ytoapgknkenlcgaa", sum := "cb961922aa8f47f0b4d65a303f06bb8a7acb7c0d94658370a68aaf5735e3ee1f", func := "invigilator/invigilatorlaw07.MovesFills", spec := "movesFills", unfollowed := true, recurses := true, apart := false, narrowed := true }
def MovesFillsUptoSaid : Prop := movesFillsUptoRow.holds Try.pinned (OpenSpec.upto movesFillsSpec)

/-- 'invigilatorlaw07.MovesCats', WHERE WHAT IT READS IS OF BULK AT MOST 1048576: true; the input reads as it did. -/
def movesCatsUptoRow : OpenClaim := { program := "ytoapgknkenlcgaa", sum := "cb961922aa8f47f0b4d65a303f06bb8a7acb7c0d94658370a68aaf5735e3ee1f", func := "invigilator/invigilatorlaw07.MovesCats", spec := "movesCats", unfollowed := true, recurses := true, apart := false, narrowed := true }
def MovesCatsUptoSaid : Prop := movesCatsUptoRow.holds Try.pinned (OpenSpec.upto movesCatsSpec)

/-- 'invigilatorlaw07.MovesBack', WHERE WHAT IT READS IS OF BULK AT MOST 1048576: true; the input reads as it did. -/
def movesBackUptoRow : OpenClaim := { program := "ytoapgknkenlcgaa", sum := "cb961922aa8f47f0b4d65a303f06bb8a7acb7c0d94658370a68aaf5735e3ee1f", func := "invigilator/invigilatorlaw07.MovesBack", spec := "movesBack", unfollowed := true, recurses := true, apart := false, narrowed := true }
def MovesBackUptoSaid : Prop := movesBackUptoRow.holds Try.pinned (OpenSpec.upto movesBackSpec)

/-- 'invigilatorlaw07.MovesParts', WHERE WHAT IT READS IS OF BULK AT MOST 1048576: true; the input reads as it did. -/
def movesPartsUptoRow : OpenClaim := { program := "ytoapgknkenlcgaa", sum := "cb961922aa8f47f0b4d65a303f06bb8a7acb7c0d94658370a68aaf5735e3ee1f", func := "invigilator/invigilatorlaw07.MovesParts", spec := "movesParts", unfollowed := true, recurses := true, apart := false, narrowed := true }
def MovesPartsUptoSaid : Prop := movesPartsUptoRow.holds Try.pinned (OpenSpec.upto movesPartsSpec)

/-- 'invigilatorlaw07.MovesJoins', WHERE WHAT IT READS IS OF BULK AT MOST 1048576: true; the input reads as it did. -/
def movesJoinsUptoRow : OpenClaim := { program := "ytoapgknkenlcgaa", sum := "cb961922aa8f47f0b4d65a303f06bb8a7acb7c0d94658370a68aaf5735e3ee1f", func := "invigilator/invigilatorlaw07.MovesJoins", spec := "movesJoins", unfollowed := true, recurses := true, apart := false, narrowed := true }
def MovesJoinsUptoSaid : Prop := movesJoinsUptoRow.holds Try.pinned (OpenSpec.upto movesJoinsSpec)

/-- 'invigilatorlaw07.MovesTurns', WHERE WHAT IT READS IS OF BULK AT MOST 1048576: true; the input reads as it did. -/
def movesTurnsUptoRow : OpenClaim := { program := "ytoapgknkenlcgaa", sum := "cb961922aa8f47f0b4d65a303f06bb8a7acb7c0d94658370a68aaf5735e3ee1f", func := "invigilator/invigilatorlaw07.MovesTurns", spec := "movesTurns", unfollowed := true, recurses := true, apart := false, narrowed := true }
def MovesTurnsUptoSaid : Prop := movesTurnsUptoRow.holds Try.pinned (OpenSpec.upto movesTurnsSpec)

/-- 'invigilatorlaw07.MovesShapes', WHERE WHAT IT READS IS OF BULK AT MOST 1048576: true; the input reads as it did. -/
def movesShapesUptoRow : OpenClaim := { program := "ytoapgknkenlcgaa", sum := "cb961922aa8f47f0b4d65a303f06bb8a7acb7c0d94658370a68aaf5735e3ee1f", func := "invigilator/invigilatorlaw07.MovesShapes", spec := "movesShapes", unfollowed := true, recurses := true, apart := false, narrowed := true }
def MovesShapesUptoSaid : Prop := movesShapesUptoRow.holds Try.pinned (OpenSpec.upto movesShapesSpec)

end Rows
end Go.Proofs.Ytoapgknkenlcgaa
