/-
  NARROWER THAN 'FOR EVERY INPUT', by the rows' own cells (each row's printed sentence says how): ArraysReads: laid · ArraysMakes: laid · ArraysCells: laid · ArraysBack: laid · ArraysKnown: laid · ArraysOrders: laid · ArraysCompare: laid · ArraysChecks: laid.
  DERIVED. THE GIVEN ROWS OF THIS SEAT. 8 by the template 'for every input the law returns true; each argument reads behind the call as it read before'; 0 by the template 'total and deterministic' (their statements: YtimpdfafodaadaaDoorTotals.lean).
  GIVEN WITH THE SEED: the statements are not yours to turn. If you find one false, say at which input.
  Laid BY PROGRAM, IN A SANDBOX (cutbox-rows.mjs): the forced cells as the released guide's own fill.sh prints them over the translation 174c5a95e7676b8f… (all of the seat's roots in one cut). By AI agents, Wed Nov 11 2026. No macro, syntax, notation, axiom, sorry.
-/
import Derived.Test.YtimpdfafodaadaaDoorChecked
import GoSem.PinnedTables
import GoSem.Claim
import GoSem.ClaimJoined
import GoSem.ClaimMapViews
import Derived.JoinedTies
import Derived.KernelRfl
namespace Go.Proofs.YtimpdfafodaadaaDoor
/- THE CELL 'sum', in the pinned program and in every row, IS THE sha256 OF THE DUMP (.gsa) THAT YtimpdfafodaadaaDoorProg.lean LOADS. Nothing in Lean hashes anything: it is a label: what it is worth is what the hold of that sum in a sandbox is worth. -/
noncomputable def Tryd.pinned : Pinned := { name := "ytimpdfafodaadaadoor", sum := "174c5a95e7676b8f4bb3772d36ee9f975d292829f43a5b147dd5c5817deecd37", checked := Tryd.checked }
namespace Rows
def none {H : Type} : Left H := { results := [], args := [] }

/- WHAT THE LISTED PACKAGE-LEVEL VARIABLES READ AS WHEN THE CALL BEGINS. Each datum BY PROGRAM (the guide's laid-datum.mjs) off the statement by which the dump's own 'gosem.cut.vars' lays the variable. In a bare row this is a premise. The card (YtimpdfafodaadaaDoorCards.lean) ties it to the program's text. -/
def laid_unicode_utf8_acceptRanges {H : Type} : DataW H := .agg [.agg [.lit (.int .u8 128), .lit (.int .u8 191)], .agg [.lit (.int .u8 160), .lit (.int .u8 191)], .agg [.lit (.int .u8 128), .lit (.int .u8 159)], .agg [.lit (.int .u8 144), .lit (.int .u8 191)], .agg [.lit (.int .u8 128), .lit (.int .u8 143)], .agg [.lit (.int .u8 0), .lit (.int .u8 0)], .agg [.lit (.int .u8 0), .lit (.int .u8 0)], .agg [.lit (.int .u8 0), .lit (.int .u8 0)], .agg [.lit (.int .u8 0), .lit (.int .u8 0)], .agg [.lit (.int .u8 0), .lit (.int .u8 0)], .agg [.lit (.int .u8 0), .lit (.int .u8 0)], .agg [.lit (.int .u8 0), .lit (.int .u8 0)], .agg [.lit (.int .u8 0), .lit (.int .u8 0)], .agg [.lit (.int .u8 0), .lit (.int .u8 0)], .agg [.lit (.int .u8 0), .lit (.int .u8 0)], .agg [.lit (.int .u8 0), .lit (.int .u8 0)]]
/-- One of Go's own tables, pinned by name: the form's constant. -/
def laid_unicode_utf8_first : DataW Unit := Go.Pinned.utf8First

/-- 'invigilatorlaw06.ArraysReads': WHATEVER THE INPUT: true; the input reads as it did. -/
def arraysReadsSpec : ChangeSpec := { name := "arraysReads", fn := fun _ => fun
  | [d] => { results := [.lit (.bool true)], args := [d] }
  | _ => none }
def arraysReadsRow : OpenClaim := { program := "ytimpdfafodaadaadoor", sum := "174c5a95e7676b8f4bb3772d36ee9f975d292829f43a5b147dd5c5817deecd37", func := "invigilator/invigilatorlaw06.ArraysReads", spec := "arraysReads", unfollowed := true, recurses := true, named := ["unicode/utf8.first", "unicode/utf8.acceptRanges"], apart := false, laid := [("unicode/utf8.acceptRanges", laid_unicode_utf8_acceptRanges), ("unicode/utf8.first", laid_unicode_utf8_first)] }
def ArraysReadsSaid : Prop := arraysReadsRow.holds Tryd.pinned (OpenSpec.ofChange arraysReadsSpec)

/-- ITS FALSE NEIGHBOUR: 'it returns false'. Refute it at one input. -/
def arraysReadsWrong : ChangeSpec := { name := "arraysReads", fn := fun _ => fun
  | [d] => { results := [.lit (.bool false)], args := [d] }
  | _ => none }
def ArraysReadsWrongFalsely : Prop := arraysReadsRow.holds Tryd.pinned (OpenSpec.ofChange arraysReadsWrong)

/-- 'invigilatorlaw06.ArraysMakes': WHATEVER THE INPUT: true; the input reads as it did. -/
def arraysMakesSpec : ChangeSpec := { name := "arraysMakes", fn := fun _ => fun
  | [d1, d2, d3] => { results := [.lit (.bool true)], args := [d1, d2, d3] }
  | _ => none }
def arraysMakesRow : OpenClaim := { program := "ytimpdfafodaadaadoor", sum := "174c5a95e7676b8f4bb3772d36ee9f975d292829f43a5b147dd5c5817deecd37", func := "invigilator/invigilatorlaw06.ArraysMakes", spec := "arraysMakes", unfollowed := true, recurses := true, named := ["unicode/utf8.first", "unicode/utf8.acceptRanges"], apart := false, laid := [("unicode/utf8.acceptRanges", laid_unicode_utf8_acceptRanges), ("unicode/utf8.first", laid_unicode_utf8_first)] }
def ArraysMakesSaid : Prop := arraysMakesRow.holds Tryd.pinned (OpenSpec.ofChange arraysMakesSpec)

/-- ITS FALSE NEIGHBOUR: 'it returns false'. Refute it at one input. -/
def arraysMakesWrong : ChangeSpec := { name := "arraysMakes", fn := fun _ => fun
  | [d1, d2, d3] => { results := [.lit (.bool false)], args := [d1, d2, d3] }
  | _ => none }
def ArraysMakesWrongFalsely : Prop := arraysMakesRow.holds Tryd.pinned (OpenSpec.ofChange arraysMakesWrong)

/-- 'invigilatorlaw06.ArraysCells': WHATEVER THE INPUT: true; the input reads as it did. -/
def arraysCellsSpec : ChangeSpec := { name := "arraysCells", fn := fun _ => fun
  | [d1, d2, d3] => { results := [.lit (.bool true)], args := [d1, d2, d3] }
  | _ => none }
def arraysCellsRow : OpenClaim := { program := "ytimpdfafodaadaadoor", sum := "174c5a95e7676b8f4bb3772d36ee9f975d292829f43a5b147dd5c5817deecd37", func := "invigilator/invigilatorlaw06.ArraysCells", spec := "arraysCells", unfollowed := true, recurses := true, named := ["unicode/utf8.first", "unicode/utf8.acceptRanges"], apart := false, laid := [("unicode/utf8.acceptRanges", laid_unicode_utf8_acceptRanges), ("unicode/utf8.first", laid_unicode_utf8_first)] }
def ArraysCellsSaid : Prop := arraysCellsRow.holds Tryd.pinned (OpenSpec.ofChange arraysCellsSpec)

/-- ITS FALSE NEIGHBOUR: 'it returns false'. Refute it at one input. -/
def arraysCellsWrong : ChangeSpec := { name := "arraysCells", fn := fun _ => fun
  | [d1, d2, d3] => { results := [.lit (.bool false)], args := [d1, d2, d3] }
  | _ => none }
def ArraysCellsWrongFalsely : Prop := arraysCellsRow.holds Tryd.pinned (OpenSpec.ofChange arraysCellsWrong)

/-- 'invigilatorlaw06.ArraysBack': WHATEVER THE INPUT: true; the input reads as it did. -/
def arraysBackSpec : ChangeSpec := { name := "arraysBack", fn := fun _ => fun
  | [d1, d2, d3] => { results := [.lit (.bool true)], args := [d1, d2, d3] }
  | _ => none }
def arraysBackRow : OpenClaim := { program := "ytimpdfafodaadaadoor", sum := "174c5a95e7676b8f4bb3772d36ee9f975d292829f43a5b147dd5c5817deecd37", func := "invigilator/invigilatorlaw06.ArraysBack", spec := "arraysBack", unfollowed := true, recurses := true, named := ["unicode/utf8.first", "unicode/utf8.acceptRanges"], apart := false, laid := [("unicode/utf8.acceptRanges", laid_unicode_utf8_acceptRanges), ("unicode/utf8.first", laid_unicode_utf8_first)] }
def ArraysBackSaid : Prop := arraysBackRow.holds Tryd.pinned (OpenSpec.ofChange arraysBackSpec)

/-- ITS FALSE NEIGHBOUR: 'it returns false'. Refute it at one input. -/
def arraysBackWrong : ChangeSpec := { name := "arraysBack", fn := fun _ => fun
  | [d1, d2, d3] => { results := [.lit (.bool false)], args := [d1, d2, d3] }
  | _ => none }
def ArraysBackWrongFalsely : Prop := arraysBackRow.holds Tryd.pinned (OpenSpec.ofChange arraysBackWrong)

/-- 'invigilatorlaw06.ArraysKnown': WHATEVER THE INPUT: true; the input reads as it did. -/
def arraysKnownSpec : ChangeSpec := { name := "arraysKnown", fn := fun _ => fun
  | [] => { results := [.lit (.bool true)], args := [] }
  | _ => none }
def arraysKnownRow : OpenClaim := { program := "ytimpdfafodaadaadoor", sum := "174c5a95e7676b8f4bb3772d36ee9f975d292829f43a5b147dd5c5817deecd37", func := "invigilator/invigilatorlaw06.ArraysKnown", spec := "arraysKnown", unfollowed := true, recurses := true, named := ["unicode/utf8.first", "unicode/utf8.acceptRanges"], apart := false, laid := [("unicode/utf8.acceptRanges", laid_unicode_utf8_acceptRanges), ("unicode/utf8.first", laid_unicode_utf8_first)] }
def ArraysKnownSaid : Prop := arraysKnownRow.holds Tryd.pinned (OpenSpec.ofChange arraysKnownSpec)

/-- ITS FALSE NEIGHBOUR: 'it returns false'. Refute it at one input. -/
def arraysKnownWrong : ChangeSpec := { name := "arraysKnown", fn := fun _ => fun
  | [] => { results := [.lit (.bool false)], args := [] }
  | _ => none }
def ArraysKnownWrongFalsely : Prop := arraysKnownRow.holds Tryd.pinned (OpenSpec.ofChange arraysKnownWrong)

/-- 'invigilatorlaw06.ArraysOrders': WHATEVER THE INPUT: true; the input reads as it did. -/
def arraysOrdersSpec : ChangeSpec := { name := "arraysOrders", fn := fun _ => fun
  | [d1, d2] => { results := [.lit (.bool true)], args := [d1, d2] }
  | _ => none }
def arraysOrdersRow : OpenClaim := { program := "ytimpdfafodaadaadoor", sum := "174c5a95e7676b8f4bb3772d36ee9f975d292829f43a5b147dd5c5817deecd37", func := "invigilator/invigilatorlaw06.ArraysOrders", spec := "arraysOrders", unfollowed := true, recurses := true, named := ["unicode/utf8.first", "unicode/utf8.acceptRanges"], apart := false, laid := [("unicode/utf8.acceptRanges", laid_unicode_utf8_acceptRanges), ("unicode/utf8.first", laid_unicode_utf8_first)] }
def ArraysOrdersSaid : Prop := arraysOrdersRow.holds Tryd.pinned (OpenSpec.ofChange arraysOrdersSpec)

/-- ITS FALSE NEIGHBOUR: 'it returns false'. Refute it at one input. -/
def arraysOrdersWrong : ChangeSpec := { name := "arraysOrders", fn := fun _ => fun
  | [d1, d2] => { results := [.lit (.bool false)], args := [d1, d2] }
  | _ => none }
def ArraysOrdersWrongFalsely : Prop := arraysOrdersRow.holds Tryd.pinned (OpenSpec.ofChange arraysOrdersWrong)

/-- 'invigilatorlaw06.ArraysCompare': WHATEVER THE INPUT: true; the input reads as it did. -/
def arraysCompareSpec : ChangeSpec := { name := "arraysCompare", fn := fun _ => fun
  | [d1, d2, d3] => { results := [.lit (.bool true)], args := [d1, d2, d3] }
  | _ => none }
def arraysCompareRow : OpenClaim := { program := "ytimpdfafodaadaadoor", sum := "174c5a95e7676b8f4bb3772d36ee9f975d292829f43a5b147dd5c5817deecd37", func := "invigilator/invigilatorlaw06.ArraysCompare", spec := "arraysCompare", unfollowed := true, recurses := true, named := ["unicode/utf8.first", "unicode/utf8.acceptRanges"], apart := false, laid := [("unicode/utf8.acceptRanges", laid_unicode_utf8_acceptRanges), ("unicode/utf8.first", laid_unicode_utf8_first)] }
def ArraysCompareSaid : Prop := arraysCompareRow.holds Tryd.pinned (OpenSpec.ofChange arraysCompareSpec)

/-- ITS FALSE NEIGHBOUR: 'it returns false'. Refute it at one input. -/
def arraysCompareWrong : ChangeSpec := { name := "arraysCompare", fn := fun _ => fun
  | [d1, d2, d3] => { results := [.lit (.bool false)], args := [d1, d2, d3] }
  | _ => none }
def ArraysCompareWrongFalsely : Prop := arraysCompareRow.holds Tryd.pinned (OpenSpec.ofChange arraysCompareWrong)

/-- 'invigilatorlaw06.ArraysChecks': WHATEVER THE INPUT: true; the input reads as it did. -/
def arraysChecksSpec : ChangeSpec := { name := "arraysChecks", fn := fun _ => fun
  | [d1, d2, d3] => { results := [.lit (.bool true)], args := [d1, d2, d3] }
  | _ => none }
def arraysChecksRow : OpenClaim := { program := "ytimpdfafodaadaadoor", sum := "174c5a95e7676b8f4bb3772d36ee9f975d292829f43a5b147dd5c5817deecd37", func := "invigilator/invigilatorlaw06.ArraysChecks", spec := "arraysChecks", unfollowed := true, recurses := true, named := ["unicode/utf8.first", "unicode/utf8.acceptRanges"], apart := false, laid := [("unicode/utf8.acceptRanges", laid_unicode_utf8_acceptRanges), ("unicode/utf8.first", laid_unicode_utf8_first)] }
def ArraysChecksSaid : Prop := arraysChecksRow.holds Tryd.pinned (OpenSpec.ofChange arraysChecksSpec)

/-- ITS FALSE NEIGHBOUR: 'it returns false'. Refute it at one input. -/
def arraysChecksWrong : ChangeSpec := { name := "arraysChecks", fn := fun _ => fun
  | [d1, d2, d3] => { results := [.lit (.bool false)], args := [d1, d2, d3] }
  | _ => none }
def ArraysChecksWrongFalsely : Prop := arraysChecksRow.holds Tryd.pinned (OpenSpec.ofChange arraysChecksWrong)

/- THE SECOND FORM. 'bulk': how many values and letters a reading holds, each counted each time it is reached (what is shared counts as often as it is met; a slice's spare places count too). A statement '..UptoSaid' is the law's where the arguments, and the package variables that the reading takes, are together of bulk at most 1048576: NARROWER than '..Said'. Prove '..Said' where nothing that the law and all that it calls make is longer than what came in: it says more and counts as full. Else prove '..UptoSaid'. A law counts once. -/
mutual
def uptoBulk {H : Type} : DataW H → Nat
  | .lit (.string bytes) => bytes.length + 1
  | .lit _ => 1
  | .nil => 1
  | .ptr d => uptoBulk d + 1
  | .slice elems spare => uptoBulkAll elems + uptoBulkAll spare + 1
  | .agg parts => uptoBulkAll parts + 1
  | .iface _ d => uptoBulk d + 1
  | .map entries => uptoBulkEntries entries + 1
  | .held _ => 1
def uptoBulkAll {H : Type} : List (DataW H) → Nat
  | [] => 0
  | d :: r => uptoBulk d + uptoBulkAll r
def uptoBulkEntries {H : Type} : List (Lit × DataW H) → Nat
  | [] => 0
  | x :: r => uptoBulkEntry x + uptoBulkEntries r
def uptoBulkEntry {H : Type} : Lit × DataW H → Nat
  | (.string bytes, d) => bytes.length + uptoBulk d + 1
  | (_, d) => uptoBulk d + 1
 end
def uptoSmall : (H : Type) → List (DataW H) → Bool := fun _ ds => decide (uptoBulkAll ds ≤ 1048576)
def OpenSpec.upto (s : _root_.Go.ChangeSpec) : _root_.Go.OpenSpec := { _root_.Go.OpenSpec.ofChange s with cond := some uptoSmall }

/-- 'invigilatorlaw06.ArraysReads', WHERE WHAT IT READS IS OF BULK AT MOST 1048576: true; the input reads as it did. -/
def arraysReadsUptoRow : OpenClaim := { program := "ytimpdfafodaadaadoor", sum := "174c5a95e7676b8f4bb3772d36ee9f975d292829f43a5b147dd5c5817deecd37", func := "invigilator/invigilatorlaw06.ArraysReads", spec := "arraysReads", unfollowed := true, recurses := true, named := ["unicode/utf8.first", "unicode/utf8.acceptRanges"], apart := false, laid := [("unicode/utf8.acceptRanges", laid_unicode_utf8_acceptRanges), ("unicode/utf8.first", laid_unicode_utf8_first)], narrowed := true }
def ArraysReadsUptoSaid : Prop := arraysReadsUptoRow.holds Tryd.pinned (OpenSpec.upto arraysReadsSpec)

/-- 'invigilatorlaw06.ArraysMakes', WHERE WHAT IT READS IS OF BULK AT MOST 1048576: true; the input reads as it did. -/
def arraysMakesUptoRow : OpenClaim := { program := "ytimpdfafodaadaadoor", sum := "174c5a95e7676b8f4bb3772d36ee9f975d292829f43a5b147dd5c5817deecd37", func := "invigilator/invigilatorlaw06.ArraysMakes", spec := "arraysMakes", unfollowed := true, recurses := true, named := ["unicode/utf8.first", "unicode/utf8.acceptRanges"], apart := false, laid := [("unicode/utf8.acceptRanges", laid_unicode_utf8_acceptRanges), ("unicode/utf8.first", laid_unicode_utf8_first)], narrowed := true }
def ArraysMakesUptoSaid : Prop := arraysMakesUptoRow.holds Tryd.pinned (OpenSpec.upto arraysMakesSpec)

/-- 'invigilatorlaw06.ArraysCells', WHERE WHAT IT READS IS OF BULK AT MOST 1048576: true; the input reads as it did. -/
def arraysCellsUptoRow : OpenClaim := { program := "ytimpdfafodaadaadoor", sum := "174c5a95e7676b8f4bb3772d36ee9f975d292829f43a5b147dd5c5817deecd37", func := "invigilator/invigilatorlaw06.ArraysCells", spec := "arraysCells", unfollowed := true, recurses := true, named := ["unicode/utf8.first", "unicode/utf8.acceptRanges"], apart := false, laid := [("unicode/utf8.acceptRanges", laid_unicode_utf8_acceptRanges), ("unicode/utf8.first", laid_unicode_utf8_first)], narrowed := true }
def ArraysCellsUptoSaid : Prop := arraysCellsUptoRow.holds Tryd.pinned (OpenSpec.upto arraysCellsSpec)

/-- 'invigilatorlaw06.ArraysBack', WHERE WHAT IT READS IS OF BULK AT MOST 1048576: true; the input reads as it did. -/
def arraysBackUptoRow : OpenClaim := { program := "ytimpdfafodaadaadoor", sum := "174c5a95e7676b8f4bb3772d36ee9f975d292829f43a5b147dd5c5817deecd37", func := "invigilator/invigilatorlaw06.ArraysBack", spec := "arraysBack", unfollowed := true, recurses := true, named := ["unicode/utf8.first", "unicode/utf8.acceptRanges"], apart := false, laid := [("unicode/utf8.acceptRanges", laid_unicode_utf8_acceptRanges), ("unicode/utf8.first", laid_unicode_utf8_first)], narrowed := true }
def ArraysBackUptoSaid : Prop := arraysBackUptoRow.holds Tryd.pinned (OpenSpec.upto arraysBackSpec)

/-- 'invigilatorlaw06.ArraysKnown', WHERE WHAT IT READS IS OF BULK AT MOST 1048576: true; the input reads as it did. -/
def arraysKnownUptoRow : OpenClaim := { program := "ytimpdfafodaadaadoor", sum := "174c5a95e7676b8f4bb3772d36ee9f975d292829f43a5b147dd5c5817deecd37", func := "invigilator/invigilatorlaw06.ArraysKnown", spec := "arraysKnown", unfollowed := true, recurses := true, named := ["unicode/utf8.first", "unicode/utf8.acceptRanges"], apart := false, laid := [("unicode/utf8.acceptRanges", laid_unicode_utf8_acceptRanges), ("unicode/utf8.first", laid_unicode_utf8_first)], narrowed := true }
def ArraysKnownUptoSaid : Prop := arraysKnownUptoRow.holds Tryd.pinned (OpenSpec.upto arraysKnownSpec)

/-- 'invigilatorlaw06.ArraysOrders', WHERE WHAT IT READS IS OF BULK AT MOST 1048576: true; the input reads as it did. -/
def arraysOrdersUptoRow : OpenClaim := { program := "ytimpdfafodaadaadoor", sum := "174c5a95e7676b8f4bb3772d36ee9f975d292829f43a5b147dd5c5817deecd37", func := "invigilator/invigilatorlaw06.ArraysOrders", spec := "arraysOrders", unfollowed := true, recurses := true, named := ["unicode/utf8.first", "unicode/utf8.acceptRanges"], apart := false, laid := [("unicode/utf8.acceptRanges", laid_unicode_utf8_acceptRanges), ("unicode/utf8.first", laid_unicode_utf8_first)], narrowed := true }
def ArraysOrdersUptoSaid : Prop := arraysOrdersUptoRow.holds Tryd.pinned (OpenSpec.upto arraysOrdersSpec)

/-- 'invigilatorlaw06.ArraysCompare', WHERE WHAT IT READS IS OF BULK AT MOST 1048576: true; the input reads as it did. -/
def arraysCompareUptoRow : OpenClaim := { program := "ytimpdfafodaadaadoor", sum := "174c5a95e7676b8f4bb3772d36ee9f975d292829f43a5b147dd5c5817deecd37", func := "invigilator/invigilatorlaw06.ArraysCompare", spec := "arraysCompare", unfollowed := true, recurses := true, named := ["unicode/utf8.first", "unicode/utf8.acceptRanges"], apart := false, laid := [("unicode/utf8.acceptRanges", laid_unicode_utf8_acceptRanges), ("unicode/utf8.first", laid_unicode_utf8_first)], narrowed := true }
def ArraysCompareUptoSaid : Prop := arraysCompareUptoRow.holds Tryd.pinned (OpenSpec.upto arraysCompareSpec)

/-- 'invigilatorlaw06.ArraysChecks', WHERE WHAT IT READS IS OF BULK AT MOST 1048576: true; the input reads as it did. -/
def arraysChecksUptoRow : OpenClaim := { program := "ytimpdfafodaadaadoor", sum := "174c5a95e7676b8f4bb3772d36ee9f975d292829f43a5b147dd5c5817deecd37", func := "invigilator/invigilatorlaw06.ArraysChecks", spec := "arraysChecks", unfollowed := true, recurses := true, named := ["unicode/utf8.first", "unicode/utf8.acceptRanges"], apart := false, laid := [("unicode/utf8.acceptRanges", laid_unicode_utf8_acceptRanges), ("unicode/utf8.first", laid_unicode_utf8_first)], narrowed := true }
def ArraysChecksUptoSaid : Prop := arraysChecksUptoRow.holds Tryd.pinned (OpenSpec.upto arraysChecksSpec)

end Rows
end Go.Proofs.YtimpdfafodaadaaDoor
