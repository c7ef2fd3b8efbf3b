/-
  Some calls on constants; the laws' awake.
-/
import Derived.Test.YteegipfgbcnfkaaDoorPl
import Derived.Test.YteegipfgbcnfkaaDoorIx
import Derived.Test.YteegipfgbcnfkaaDoorFi
namespace Go.Proofs.YteegipfgbcnfkaaDoor
open Go.RowKit
attribute [local go_sem] Oper.semAt_some

set_option maxHeartbeats 1000000 in
theorem digits3 (w : World) : Calls Tryd.prog 32 #[.int .i64 3] w fun e w' => e = .returned (.string ⟨#[48 + 3]⟩) ∧ Below w.heap.size w w' := by
  go_enter Tryd.func32, Tryd.ntmps32
  go_wp2
  go_ret
  exact ⟨rfl, Below.refl _ _⟩
set_option maxHeartbeats 1000000 in
theorem digits4 (w : World) : Calls Tryd.prog 32 #[.int .i64 4] w fun e w' => e = .returned (.string ⟨#[48 + 4]⟩) ∧ Below w.heap.size w w' := by
  go_enter Tryd.func32, Tryd.ntmps32
  go_wp2
  go_ret
  exact ⟨rfl, Below.refl _ _⟩
set_option maxHeartbeats 1000000 in
theorem print34 (w : World) : Calls Tryd.prog 13 #[.int .i64 2, .agg #[.int .i64 3, .int .i64 4]] w fun e w' => e = .returned (.tuple #[.string ⟨#[51, 120, 52]⟩, .int .i64 0]) ∧ Below w.heap.size w w' := by
  go_enter Tryd.func13, Tryd.ntmps13
  go_wp2_with fail
  refine (check_any 2 3 4 0 _ rfl).mono ?_
  rintro e w1 ⟨rfl, hb1⟩
  obtain ⟨X0, b1⟩ := after1 hb1
  have q0 := Bx.lt X0
  clear hb1
  have c0 : ∀ i, w1.cell? ⟨w.heap.size, i, none⟩ = _ := Bx.cell X0
  go_wp2
  refine wp_loop_rounds 3 ?_
  rw [rounds_succ]
  go_wp2_with fail
  refine (digits3 _).mono ?_
  rintro e w2 ⟨rfl, hb2⟩
  have X0' := Bx.step X0 hb2
  have b2 := bst b1 hb2
  clear c0 q0 X0 hb2
  have q0 := Bx.lt X0'
  have c0 : ∀ i, w2.cell? ⟨w.heap.size, i, none⟩ = _ := Bx.cell X0'
  go_wp2
  rw [rounds_succ]
  go_wp2_with fail
  refine (digits4 _).mono ?_
  rintro e w3 ⟨rfl, hb3⟩
  go_wp2
  rw [rounds_succ]
  go_wp2
  go_ret2
  exact ⟨rfl, bst b2 hb3⟩
set_option maxHeartbeats 1000000 in
theorem awake5 (w : World) : Calls Tryd.prog 17 #[] w fun e w' => e = .returned (.bool true) ∧ Below w.heap.size w w' := by
  have hgu := guardLens
  have hqu := eqLens
  go_enter Tryd.func17, Tryd.ntmps17
  go_wp2_with fail
  refine (cells_ok 2 3 4 _ rfl).mono ?_
  rintro e w1 ⟨rfl, hst⟩
  have b : Below w.heap.size w w1 := hst
  clear hst
  go_wp2_with fail
  refine (place_any 2 3 4 1 2 6 0 _ rfl).mono ?_
  rintro e w2 ⟨rfl, hst⟩
  replace b : Below w.heap.size w w2 := bst b hst
  clear hst
  go_wp2_with fail
  refine (index_any 2 3 4 6 1 2 0 _ rfl).mono ?_
  rintro e w3 ⟨rfl, hst⟩
  replace b : Below w.heap.size w w3 := bst b hst
  clear hst
  go_wp2_with fail
  refine (fits_any 2 3 4 0 0 0 2 3 4 0 _ rfl).mono ?_
  rintro e w4 ⟨rfl, hst⟩
  obtain ⟨X1, hst⟩ := after1 hst
  replace b : Below w.heap.size w w4 := bst b hst
  clear hst
  have dX1 : ∀ i, w4.cell? ⟨w3.heap.size, i, none⟩ = _ := Bx.cell X1
  have eX1 : ∀ i, w4.frozen? ⟨w3.heap.size, i, none⟩ = false := Bx.frozen X1
  have qX1 := Bx.lt X1
  go_wp2_with fail
  refine (print34 _).mono ?_
  rintro e w5 ⟨rfl, hst⟩
  clear dX1 eX1 qX1
  obtain ⟨X2, hst⟩ := after1 hst
  replace X1 := Bx.step X1 hst
  replace b : Below w.heap.size w w5 := bst b hst
  clear hst
  have dX1 : ∀ i, w5.cell? ⟨w3.heap.size, i, none⟩ = _ := Bx.cell X1
  have eX1 : ∀ i, w5.frozen? ⟨w3.heap.size, i, none⟩ = false := Bx.frozen X1
  have qX1 := Bx.lt X1
  have dX2 : ∀ i, w5.cell? ⟨w4.heap.size, i, none⟩ = _ := Bx.cell X2
  have eX2 : ∀ i, w5.frozen? ⟨w4.heap.size, i, none⟩ = false := Bx.frozen X2
  have qX2 := Bx.lt X2
  go_wp2
  go_ret
  exact ⟨rfl, b⟩
end Go.Proofs.YteegipfgbcnfkaaDoor
