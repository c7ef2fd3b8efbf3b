/-
  The two tables that the decoder of runes reads, out of the row's list.
-/
import Derived.Test.YtimpdfafodaadaaDoorShelf6
import Derived.Test.YtimpdfafodaadaaDoorRows
import Derived.Lib.LaidU8
import Derived.LaidMore
import Derived.Stop.LaidErr
namespace Go.Proofs.YtimpdfafodaadaaDoor
open Go.RowKit

theorem u8extra : U8Extra Tryd.prog Tryd.lays197_ren := ⟨by kernel_rfl, by kernel_rfl, by kernel_rfl, by kernel_rfl, by kernel_rfl, by kernel_rfl, by kernel_rfl⟩
theorem first_data : (Go.Pinned.utf8First : DataW Unit) = Lib.firstData := by kernel_rfl
theorem accept_data : (Rows.laid_unicode_utf8_acceptRanges : DataW Unit) = Lib.acceptData := by kernel_rfl
theorem tab_of_laid {W : World} (h : laidMetH Tryd.prog Rows.arraysChecksRow.laid W) : Lib.Utf8Tabs 0 1 W := by
  rw [MakeChecks.laidMetH_plain _ _ _ (by kernel_rfl)] at h
  exact utf8Tabs_of_reads { Tryd.lays197 with } u8extra
    (Lib.laidMet.reads h (by rw [← first_data]; exact List.mem_cons_of_mem _ List.mem_cons_self))
    (Lib.laidMet.reads h (by rw [← accept_data]; exact List.mem_cons_self))
end Go.Proofs.YtimpdfafodaadaaDoor
