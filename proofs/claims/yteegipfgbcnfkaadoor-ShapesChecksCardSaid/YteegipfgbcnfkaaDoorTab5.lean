/-
  The table that strconv reads, out of the row's list.
-/
import Derived.Test.YteegipfgbcnfkaaDoorDg5
import Derived.LaidMore
import Derived.Stop.LaidErr
namespace Go.Proofs.YteegipfgbcnfkaaDoor
open Go.RowKit

theorem tab_data : (Rows.laid_internal_strconv_uint64pow10 : DataW Unit) = Lib.tabData .u64 Lib.pow10Tab := by rfl
theorem tab_of_laid {W : World} (h : laidMetH Tryd.prog Rows.shapesChecksRow.laid W) : Tab W := by
  rw [MakeChecks.laidMetH_plain _ _ _ (by kernel_rfl)] at h
  have h2 : laidMet Tryd.prog ((tabName, Lib.tabData .u64 Lib.pow10Tab) :: []) W := by
    rw [← tab_data]
    exact laidMet.tail (laidMet.tail h)
  have h3 : Lib.TabIs Tryd.prog W tabName .u64 Lib.pow10Tab :=
    Lib.tabIs_of_head (g := 0) (t := 65) (e := 58) (n := 20) (by kernel_rfl) (by kernel_rfl) Tryd.underlying65 Tryd.underlying58 (by kernel_rfl) (by kernel_rfl) h2
  exact Lib.tabBelow_of_tabIs h3
end Go.Proofs.YteegipfgbcnfkaaDoor
