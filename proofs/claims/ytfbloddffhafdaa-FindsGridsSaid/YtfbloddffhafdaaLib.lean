/-
  The integers' type, as the program has it (this seat has no slices.Clone).
-/
import Derived.Test.YtfbloddffhafdaaProg
import Derived.Test.YtfbloddffhafdaaBase2
namespace Go.Proofs.Ytfbloddffhafdaa
open Go.RowKit

theorem infoI64 : (Try.prog.info? 2).map (fun i => (i.zero, i.size, i.bytes)) = some (some (.int .i64 0), 1, 8) := by kernel_rfl
end Go.Proofs.Ytfbloddffhafdaa
