/-
  The reference's Scalar, rows, Ravel; the law's Far, Int, Ints.
-/
import Derived.Test.YtoapgknkenlcgaaRtake
import Derived.Test.YtoapgknkenlcgaaMrav
namespace Go.Proofs.Ytoapgknkenlcgaa
open Go.RowKit

set_option maxHeartbeats 400000 in
theorem rrows2 (k l0 l1 : Int) (A : Option Addr) (n c : Nat) (w : World) :
    Calls Try.prog 51 #[.agg #[.int .i64 k, .int .i64 2, .int .i64 l0, .int .i64 l1, .slice A n c]] w fun e w' => e = .returned (.tuple #[.int .i64 l0, .int .i64 l1]) ∧ Below w.heap.size w w' := by
  go_enter Try.func51, Try.ntmps51
  go_wp2
  go_quiet (fail)
  go_wp2
  go_ret2
  exact ⟨rfl, bdn (bal (Below.refl _ _) _) _⟩
set_option maxHeartbeats 400000 in
theorem rrows1 (k r l0 l1 : Int) (A : Option Addr) (n c : Nat) (w : World) (hr : (r == 2) = false) :
    Calls Try.prog 51 #[.agg #[.int .i64 k, .int .i64 r, .int .i64 l0, .int .i64 l1, .slice A n c]] w fun e w' => e = .returned (.tuple #[.int .i64 1, .int .i64 n]) ∧ Below w.heap.size w w' := by
  go_enter Try.func51, Try.ntmps51
  go_wp2
  go_quiet (fail)
  go_wp2
  go_ret2
  exact ⟨rfl, bdn (bal (Below.refl _ _) _) _⟩
set_option maxHeartbeats 400000 in
theorem far_any (k r l0 l1 : Int) (A : Option Addr) (n c : Nat) (w : World) :
    Calls Try.prog 11 #[.agg #[.int .i64 k, .int .i64 r, .int .i64 l0, .int .i64 l1, .slice A n c]] w fun e w' => e = .returned (.bool (decide (405 < n))) ∧ Below w.heap.size w w' := by
  by_cases h : 405 < n
  · have h1 : (405 : Int) < (n : Int) := by omega
    go_enter Try.func11, Try.ntmps11
    go_wp2
    go_ret
    exact ⟨by rw [decide_eq_true h]; rfl, bal (Below.refl _ _) _⟩
  · have h1 : ¬ (405 : Int) < (n : Int) := by omega
    go_enter Try.func11, Try.ntmps11
    go_wp2
    go_ret
    exact ⟨by rfl, bal (Below.refl _ _) _⟩

end Go.Proofs.Ytoapgknkenlcgaa
