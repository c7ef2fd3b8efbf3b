/-
  moves.columns, moves.height.
-/
import Derived.Test.YtoapgknkenlcgaaMrav
namespace Go.Proofs.Ytoapgknkenlcgaa
open Go.RowKit

set_option maxHeartbeats 400000 in
theorem columns1 (k l0 l1 : Int) (A : Option Addr) (n c : Nat) (w : World) :
    Calls Try.prog 49 #[.agg #[.int .i64 k, .int .i64 1, .int .i64 l0, .int .i64 l1, .slice A n c]] w fun e w' => e = .returned (.int .i64 l0) ∧ Below w.heap.size w w' := by
  go_enter Try.func49, Try.ntmps49
  go_wp2
  go_ret
  exact ⟨rfl, bal (Below.refl _ _) _⟩
set_option maxHeartbeats 400000 in
theorem columns2 (k l0 l1 : Int) (A : Option Addr) (n c : Nat) (w : World) :
    Calls Try.prog 49 #[.agg #[.int .i64 k, .int .i64 2, .int .i64 l0, .int .i64 l1, .slice A n c]] w fun e w' => e = .returned (.int .i64 l1) ∧ Below w.heap.size w w' := by
  go_enter Try.func49, Try.ntmps49
  go_wp2
  go_ret
  exact ⟨rfl, bal (Below.refl _ _) _⟩
set_option maxHeartbeats 400000 in
theorem height1 (k l0 l1 : Int) (A : Option Addr) (n c : Nat) (w : World) :
    Calls Try.prog 48 #[.agg #[.int .i64 k, .int .i64 1, .int .i64 l0, .int .i64 l1, .slice A n c]] w fun e w' => e = .returned (.int .i64 1) ∧ Below w.heap.size w w' := by
  go_enter Try.func48, Try.ntmps48
  go_wp2
  go_ret
  exact ⟨rfl, bal (Below.refl _ _) _⟩
set_option maxHeartbeats 400000 in
theorem height2 (k l0 l1 : Int) (A : Option Addr) (n c : Nat) (w : World) :
    Calls Try.prog 48 #[.agg #[.int .i64 k, .int .i64 2, .int .i64 l0, .int .i64 l1, .slice A n c]] w fun e w' => e = .returned (.int .i64 l0) ∧ Below w.heap.size w w' := by
  go_enter Try.func48, Try.ntmps48
  go_wp2
  go_ret
  exact ⟨rfl, bal (Below.refl _ _) _⟩
end Go.Proofs.Ytoapgknkenlcgaa
