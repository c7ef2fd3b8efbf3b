/-
  The reference's Scalar.
-/
import Derived.Test.YtoapgknkenlcgaaRsmall
namespace Go.Proofs.Ytoapgknkenlcgaa
open Go.RowKit
set_option maxHeartbeats 400000 in
theorem rScalar_any (k x : Int) (w : World) : Calls Try.prog 36 #[.int .i64 k, .int .i64 x] w (RetV w k 0 0 0 [x]) := by
  go_enter Try.func36, Try.ntmps36
  go_wp2
  refine retA (B := w.heap.size) rfl rfl rfl ((Bx.new _ _ _).alloc _) ?_
  refine ⟨⟨_, _, _, rfl, ?_, fun b o s e => by cases e; omega⟩, below2 _ _ _⟩
  have := Bx.new (w.alloc (.cells #[.int .i64 k, .int .i64 0, .int .i64 0, .int .i64 0, .slice (some ⟨w.heap.size + 1, 0, none⟩) 1 1] 25)) #[.int .i64 x] 2
  rw [World.size_alloc] at this
  exact Sl.of_box this rfl (by omega) (by decide) (fun j hj => by
    obtain rfl : j = 0 := by omega
    rfl)
end Go.Proofs.Ytoapgknkenlcgaa
